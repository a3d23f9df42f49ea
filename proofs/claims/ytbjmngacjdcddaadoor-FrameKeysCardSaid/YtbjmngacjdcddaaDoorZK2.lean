/- What is shown of the program on the way to the law. -/
import Derived.Test.YtbjmngacjdcddaaDoorZK1
import Derived.Lib.ValidU
import Derived.Lib.RuneCount
set_option linter.unusedVariables false
set_option linter.unusedSimpArgs false
set_option maxHeartbeats 4000000
namespace Go.Lx
set_option linter.unusedVariables false
def bits_RotateLeft32 (x0 : BitVec 32) (x1 : Int) (Q : (BitVec 32) → Prop) : Prop :=
Q ((x0 <<< (((BitVec.ofInt 64 x1) &&& (31#64)).toNat : Int).toNat) ||| (x0 >>> (((32#64) - ((BitVec.ofInt 64 x1) &&& (31#64))).toNat : Int).toNat))

def cipher_words_quarter (x0 : Arr 16 (BitVec 32)) (x1 : Int) (x2 : Int) (x3 : Int) (x4 : Int) (Q : (Arr 16 (BitVec 32)) → Prop) : Prop :=
∃ x3_, At x0.l x1 x3_ ∧ ∃ x4_, At x0.l x2 x4_ ∧ ∃ x5_, At x0.l x1 x5_ ∧ ∃ x10_, At (Arr.mk (n := 16) (put x0.l x1 (x3_ + x4_))).l x4 x10_ ∧ ∃ x11_, At (Arr.mk (n := 16) (put x0.l x1 (x3_ + x4_))).l x1 x11_ ∧ bits_RotateLeft32 (x10_ ^^^ x11_) 16 fun (r12_0 : BitVec 32) => ∃ x13_, At (Arr.mk (n := 16) (put x0.l x1 (x3_ + x4_))).l x4 x13_ ∧ ∃ x18_, At (Arr.mk (n := 16) (put (Arr.mk (n := 16) (put x0.l x1 (x3_ + x4_))).l x4 r12_0)).l x3 x18_ ∧ ∃ x19_, At (Arr.mk (n := 16) (put (Arr.mk (n := 16) (put x0.l x1 (x3_ + x4_))).l x4 r12_0)).l x4 x19_ ∧ ∃ x20_, At (Arr.mk (n := 16) (put (Arr.mk (n := 16) (put x0.l x1 (x3_ + x4_))).l x4 r12_0)).l x3 x20_ ∧ ∃ x25_, At (Arr.mk (n := 16) (put (Arr.mk (n := 16) (put (Arr.mk (n := 16) (put x0.l x1 (x3_ + x4_))).l x4 r12_0)).l x3 (x18_ + x19_))).l x2 x25_ ∧ ∃ x26_, At (Arr.mk (n := 16) (put (Arr.mk (n := 16) (put (Arr.mk (n := 16) (put x0.l x1 (x3_ + x4_))).l x4 r12_0)).l x3 (x18_ + x19_))).l x3 x26_ ∧ bits_RotateLeft32 (x25_ ^^^ x26_) 12 fun (r27_0 : BitVec 32) => ∃ x28_, At (Arr.mk (n := 16) (put (Arr.mk (n := 16) (put (Arr.mk (n := 16) (put x0.l x1 (x3_ + x4_))).l x4 r12_0)).l x3 (x18_ + x19_))).l x2 x28_ ∧ ∃ x33_, At (Arr.mk (n := 16) (put (Arr.mk (n := 16) (put (Arr.mk (n := 16) (put (Arr.mk (n := 16) (put x0.l x1 (x3_ + x4_))).l x4 r12_0)).l x3 (x18_ + x19_))).l x2 r27_0)).l x1 x33_ ∧ ∃ x34_, At (Arr.mk (n := 16) (put (Arr.mk (n := 16) (put (Arr.mk (n := 16) (put (Arr.mk (n := 16) (put x0.l x1 (x3_ + x4_))).l x4 r12_0)).l x3 (x18_ + x19_))).l x2 r27_0)).l x2 x34_ ∧ ∃ x35_, At (Arr.mk (n := 16) (put (Arr.mk (n := 16) (put (Arr.mk (n := 16) (put (Arr.mk (n := 16) (put x0.l x1 (x3_ + x4_))).l x4 r12_0)).l x3 (x18_ + x19_))).l x2 r27_0)).l x1 x35_ ∧ ∃ x40_, At (Arr.mk (n := 16) (put (Arr.mk (n := 16) (put (Arr.mk (n := 16) (put (Arr.mk (n := 16) (put (Arr.mk (n := 16) (put x0.l x1 (x3_ + x4_))).l x4 r12_0)).l x3 (x18_ + x19_))).l x2 r27_0)).l x1 (x33_ + x34_))).l x4 x40_ ∧ ∃ x41_, At (Arr.mk (n := 16) (put (Arr.mk (n := 16) (put (Arr.mk (n := 16) (put (Arr.mk (n := 16) (put (Arr.mk (n := 16) (put x0.l x1 (x3_ + x4_))).l x4 r12_0)).l x3 (x18_ + x19_))).l x2 r27_0)).l x1 (x33_ + x34_))).l x1 x41_ ∧ bits_RotateLeft32 (x40_ ^^^ x41_) 8 fun (r42_0 : BitVec 32) => ∃ x43_, At (Arr.mk (n := 16) (put (Arr.mk (n := 16) (put (Arr.mk (n := 16) (put (Arr.mk (n := 16) (put (Arr.mk (n := 16) (put x0.l x1 (x3_ + x4_))).l x4 r12_0)).l x3 (x18_ + x19_))).l x2 r27_0)).l x1 (x33_ + x34_))).l x4 x43_ ∧ ∃ x48_, At (Arr.mk (n := 16) (put (Arr.mk (n := 16) (put (Arr.mk (n := 16) (put (Arr.mk (n := 16) (put (Arr.mk (n := 16) (put (Arr.mk (n := 16) (put x0.l x1 (x3_ + x4_))).l x4 r12_0)).l x3 (x18_ + x19_))).l x2 r27_0)).l x1 (x33_ + x34_))).l x4 r42_0)).l x3 x48_ ∧ ∃ x49_, At (Arr.mk (n := 16) (put (Arr.mk (n := 16) (put (Arr.mk (n := 16) (put (Arr.mk (n := 16) (put (Arr.mk (n := 16) (put (Arr.mk (n := 16) (put x0.l x1 (x3_ + x4_))).l x4 r12_0)).l x3 (x18_ + x19_))).l x2 r27_0)).l x1 (x33_ + x34_))).l x4 r42_0)).l x4 x49_ ∧ ∃ x50_, At (Arr.mk (n := 16) (put (Arr.mk (n := 16) (put (Arr.mk (n := 16) (put (Arr.mk (n := 16) (put (Arr.mk (n := 16) (put (Arr.mk (n := 16) (put x0.l x1 (x3_ + x4_))).l x4 r12_0)).l x3 (x18_ + x19_))).l x2 r27_0)).l x1 (x33_ + x34_))).l x4 r42_0)).l x3 x50_ ∧ ∃ x54_, At (Arr.mk (n := 16) (put (Arr.mk (n := 16) (put (Arr.mk (n := 16) (put (Arr.mk (n := 16) (put (Arr.mk (n := 16) (put (Arr.mk (n := 16) (put (Arr.mk (n := 16) (put x0.l x1 (x3_ + x4_))).l x4 r12_0)).l x3 (x18_ + x19_))).l x2 r27_0)).l x1 (x33_ + x34_))).l x4 r42_0)).l x3 (x48_ + x49_))).l x2 x54_ ∧ ∃ x55_, At (Arr.mk (n := 16) (put (Arr.mk (n := 16) (put (Arr.mk (n := 16) (put (Arr.mk (n := 16) (put (Arr.mk (n := 16) (put (Arr.mk (n := 16) (put (Arr.mk (n := 16) (put x0.l x1 (x3_ + x4_))).l x4 r12_0)).l x3 (x18_ + x19_))).l x2 r27_0)).l x1 (x33_ + x34_))).l x4 r42_0)).l x3 (x48_ + x49_))).l x3 x55_ ∧ bits_RotateLeft32 (x54_ ^^^ x55_) 7 fun (r56_0 : BitVec 32) => ∃ x57_, At (Arr.mk (n := 16) (put (Arr.mk (n := 16) (put (Arr.mk (n := 16) (put (Arr.mk (n := 16) (put (Arr.mk (n := 16) (put (Arr.mk (n := 16) (put (Arr.mk (n := 16) (put x0.l x1 (x3_ + x4_))).l x4 r12_0)).l x3 (x18_ + x19_))).l x2 r27_0)).l x1 (x33_ + x34_))).l x4 r42_0)).l x3 (x48_ + x49_))).l x2 x57_ ∧ Q (Arr.mk (n := 16) (put (Arr.mk (n := 16) (put (Arr.mk (n := 16) (put (Arr.mk (n := 16) (put (Arr.mk (n := 16) (put (Arr.mk (n := 16) (put (Arr.mk (n := 16) (put (Arr.mk (n := 16) (put x0.l x1 (x3_ + x4_))).l x4 r12_0)).l x3 (x18_ + x19_))).l x2 r27_0)).l x1 (x33_ + x34_))).l x4 r42_0)).l x3 (x48_ + x49_))).l x2 r56_0))

def cipher_words_double (x0 : Arr 16 (BitVec 32)) (Q : (Arr 16 (BitVec 32)) → Prop) : Prop :=
Jn1 (fun (yd0_1 : Arr 16 (BitVec 32)) => Lp2 (fun (x17_16 : Int) (yd0_16 : Arr 16 (BitVec 32)) next16_ => ((x17_16 < 4) → (Ck (x17_16 + 1) ∧ Ck (4 + ((x17_16 + 1).tmod 4)) ∧ Ck (x17_16 + 2) ∧ Ck (8 + ((x17_16 + 2).tmod 4)) ∧ Ck (x17_16 + 3) ∧ Ck (12 + ((x17_16 + 3).tmod 4)) ∧ cipher_words_quarter yd0_16 x17_16 (4 + ((x17_16 + 1).tmod 4)) (8 + ((x17_16 + 2).tmod 4)) (12 + ((x17_16 + 3).tmod 4)) fun (y28_0 : Arr 16 (BitVec 32)) => Ck (x17_16 + 1) ∧ next16_ (x17_16 + 1) y28_0)) ∧ (¬ (x17_16 < 4) → (Q yd0_16))) 0 yd0_1) fun J1_ => Lp2 (fun (x4_3 : Int) (yd0_3 : Arr 16 (BitVec 32)) next3_ => ((x4_3 < 4) → (Ck (4 + x4_3) ∧ Ck (8 + x4_3) ∧ Ck (12 + x4_3) ∧ cipher_words_quarter yd0_3 x4_3 (4 + x4_3) (8 + x4_3) (12 + x4_3) fun (y12_0 : Arr 16 (BitVec 32)) => Ck (x4_3 + 1) ∧ next3_ (x4_3 + 1) y12_0)) ∧ (¬ (x4_3 < 4) → (J1_ yd0_3))) 0 x0

def cipher_word (x0 : List UInt8) (Q : (BitVec 32) → Prop) : Prop :=
∃ x4_, At x0 0 x4_ ∧ ∃ x5_, At x0 1 x5_ ∧ ∃ x6_, At x0 2 x6_ ∧ ∃ x7_, At x0 3 x7_ ∧ Q ((((x4_.toBitVec.setWidth 32) ||| ((x5_.toBitVec.setWidth 32) <<< (8 : Nat))) ||| ((x6_.toBitVec.setWidth 32) <<< (16 : Nat))) ||| ((x7_.toBitVec.setWidth 32) <<< (24 : Nat)))

def cipher_stream (x0 : List UInt8) (x1 : BitVec 64) (x2 : BitVec 64) (Q : (Arr 64 UInt8) → Prop) : Prop :=
Jn1 (fun (yb4__6 : Arr 16 (BitVec 32)) => ∃ x25_, At yb4__6.l 12 x25_ ∧ ∃ x27_, At (Arr.mk (n := 16) (put yb4__6.l 12 (x2.setWidth 32))).l 13 x27_ ∧ ∃ x29_, At (Arr.mk (n := 16) (put (Arr.mk (n := 16) (put yb4__6.l 12 (x2.setWidth 32))).l 13 ((x2 >>> (32 : Nat)).setWidth 32))).l 14 x29_ ∧ ∃ x31_, At (Arr.mk (n := 16) (put (Arr.mk (n := 16) (put (Arr.mk (n := 16) (put yb4__6.l 12 (x2.setWidth 32))).l 13 ((x2 >>> (32 : Nat)).setWidth 32))).l 14 (x1.setWidth 32))).l 15 x31_ ∧ Jn1 (fun (yb35__37 : Arr 16 (BitVec 32)) => Jn1 (fun (yb47__48 : Arr 64 UInt8) => Q yb47__48) fun J48_ => Lp2 (fun (x45_50 : Int) (yb47__50 : Arr 64 UInt8) next50_ => ((x45_50 < 16) → (∃ x58_, At yb35__37.l x45_50 x58_ ∧ ∃ x59_, At (Arr.mk (n := 16) (put (Arr.mk (n := 16) (put (Arr.mk (n := 16) (put (Arr.mk (n := 16) (put yb4__6.l 12 (x2.setWidth 32))).l 13 ((x2 >>> (32 : Nat)).setWidth 32))).l 14 (x1.setWidth 32))).l 15 ((x1 >>> (32 : Nat)).setWidth 32))).l x45_50 x59_ ∧ Ck (4 * x45_50) ∧ Ck (4 * x45_50) ∧ Ck ((4 * x45_50) + 1) ∧ Ck (4 * x45_50) ∧ Ck ((4 * x45_50) + 2) ∧ Ck (4 * x45_50) ∧ Ck ((4 * x45_50) + 3) ∧ ∃ x68_, At yb47__50.l (4 * x45_50) x68_ ∧ ∃ x70_, At (Arr.mk (n := 64) (put yb47__50.l (4 * x45_50) (UInt8.ofBitVec ((x58_ + x59_).setWidth 8)))).l ((4 * x45_50) + 1) x70_ ∧ ∃ x72_, At (Arr.mk (n := 64) (put (Arr.mk (n := 64) (put yb47__50.l (4 * x45_50) (UInt8.ofBitVec ((x58_ + x59_).setWidth 8)))).l ((4 * x45_50) + 1) (UInt8.ofBitVec (((x58_ + x59_) >>> (8 : Nat)).setWidth 8)))).l ((4 * x45_50) + 2) x72_ ∧ ∃ x74_, At (Arr.mk (n := 64) (put (Arr.mk (n := 64) (put (Arr.mk (n := 64) (put yb47__50.l (4 * x45_50) (UInt8.ofBitVec ((x58_ + x59_).setWidth 8)))).l ((4 * x45_50) + 1) (UInt8.ofBitVec (((x58_ + x59_) >>> (8 : Nat)).setWidth 8)))).l ((4 * x45_50) + 2) (UInt8.ofBitVec (((x58_ + x59_) >>> (16 : Nat)).setWidth 8)))).l ((4 * x45_50) + 3) x74_ ∧ Ck (x45_50 + 1) ∧ next50_ (x45_50 + 1) (Arr.mk (n := 64) (put (Arr.mk (n := 64) (put (Arr.mk (n := 64) (put (Arr.mk (n := 64) (put yb47__50.l (4 * x45_50) (UInt8.ofBitVec ((x58_ + x59_).setWidth 8)))).l ((4 * x45_50) + 1) (UInt8.ofBitVec (((x58_ + x59_) >>> (8 : Nat)).setWidth 8)))).l ((4 * x45_50) + 2) (UInt8.ofBitVec (((x58_ + x59_) >>> (16 : Nat)).setWidth 8)))).l ((4 * x45_50) + 3) (UInt8.ofBitVec (((x58_ + x59_) >>> (24 : Nat)).setWidth 8)))))) ∧ (¬ (x45_50 < 16) → (J48_ yb47__50))) 0 (Arr.mk (n := 64) (List.replicate 64 (0 : UInt8)))) fun J37_ => Lp2 (fun (x41_39 : Int) (yb35__39 : Arr 16 (BitVec 32)) next39_ => ((x41_39 < 10) → (cipher_words_double yb35__39 fun (y44_0 : Arr 16 (BitVec 32)) => Ck (x41_39 + 1) ∧ next39_ (x41_39 + 1) y44_0)) ∧ (¬ (x41_39 < 10) → (J37_ yb35__39))) 0 (Arr.mk (n := 16) (put (Arr.mk (n := 16) (put (Arr.mk (n := 16) (put (Arr.mk (n := 16) (put yb4__6.l 12 (x2.setWidth 32))).l 13 ((x2 >>> (32 : Nat)).setWidth 32))).l 14 (x1.setWidth 32))).l 15 ((x1 >>> (32 : Nat)).setWidth 32)))) fun J6_ => Lp2 (fun (x14_8 : Int) (yb4__8 : Arr 16 (BitVec 32)) next8_ => ((x14_8 < 8) → (Ck (4 + x14_8) ∧ Ck (4 * x14_8) ∧ 0 ≤ (4 * x14_8) ∧ (4 * x14_8) ≤ (x0.length : Int) ∧ cipher_word (cut x0 (4 * x14_8) (x0.length : Int)) fun (r19_0 : BitVec 32) => ∃ x20_, At yb4__8.l (4 + x14_8) x20_ ∧ Ck (x14_8 + 1) ∧ next8_ (x14_8 + 1) (Arr.mk (n := 16) (put yb4__8.l (4 + x14_8) r19_0)))) ∧ (¬ (x14_8 < 8) → (J6_ yb4__8))) 0 (Arr.mk (n := 16) [(1634760805#32), (857760878#32), (2036477234#32), (1797285236#32), (0#32), (0#32), (0#32), (0#32), (0#32), (0#32), (0#32), (0#32), (0#32), (0#32), (0#32), (0#32)])

def cipher_Turn (x0 : List UInt8) (x1 : BitVec 64) (x2 : List UInt8) (Q : (List UInt8) → Int → Prop) : Prop :=
(((x0.length : Int) < 32) → (Q [] 1)) ∧ (¬ ((x0.length : Int) < 32) → (0 ≤ (x2.length : Int) ∧ Rm 1 (x2.length : Int).toNat ∧ Jn1 (fun (x8_14 : List UInt8) => Q x8_14 0) fun J14_ => Lp3 (fun (x8_16 : List UInt8) (x20_16 : Int) (yb13__16 : Arr 64 UInt8) next16_ => ((x20_16 < (x2.length : Int)) → (∃ x22_, At x2 x20_16 x22_ ∧ Jn1 (fun (yb13__23 : Arr 64 UInt8) => ∃ x32_, At yb13__23.l (x20_16.tmod 64) x32_ ∧ Rm 1 (x8_16.length + ([(x22_ ^^^ x32_)] : List UInt8).length) ∧ Ck (x20_16 + 1) ∧ next16_ (x8_16 ++ ([(x22_ ^^^ x32_)] : List UInt8)) (x20_16 + 1) yb13__23) fun J23_ => (((x20_16.tmod 64) = 0) → (32 ≤ (x0.length : Int) ∧ Ck (x20_16.tdiv 64) ∧ cipher_stream (cut x0 0 32) x1 (BitVec.ofInt 64 (x20_16.tdiv 64)) fun (r30_0 : Arr 64 UInt8) => J23_ r30_0)) ∧ (¬ ((x20_16.tmod 64) = 0) → (J23_ yb13__16)))) ∧ (¬ (x20_16 < (x2.length : Int)) → (J14_ x8_16))) ([] : List UInt8) 0 (Arr.mk (n := 64) (List.replicate 64 (0 : UInt8)))))

def hash_Equal (x0 : List UInt8) (x1 : List UInt8) (Q : Bool → Prop) : Prop :=
(((x0.length : Int) ≠ (x1.length : Int)) → (Q false)) ∧ (¬ ((x0.length : Int) ≠ (x1.length : Int)) → (Jn1 (fun (x5_9 : UInt8) => Q (decide ((x5_9.toNat : Int) = 0))) fun J9_ => Lp2 (fun (x5_11 : UInt8) (x14_11 : Int) next11_ => ((x14_11 < (x0.length : Int)) → (∃ x18_, At x0 x14_11 x18_ ∧ ∃ x19_, At x1 x14_11 x19_ ∧ Ck (x14_11 + 1) ∧ next11_ (x5_11 ||| (x18_ ^^^ x19_)) (x14_11 + 1))) ∧ (¬ (x14_11 < (x0.length : Int)) → (J9_ x5_11))) (0 : UInt8) 0))

def bytes_Equal (x0 : List UInt8) (x1 : List UInt8) (Q : Bool → Prop) : Prop :=
Q (decide ((Str.mk x0).b = (Str.mk x1).b))

def octet_Put (x0 : List UInt8) (x1 : List Int) (Q : (List UInt8) → Prop) : Prop :=
Ck (8 * (x1.length : Int)) ∧ Ck ((x0.length : Int) + (8 * (x1.length : Int))) ∧ 0 ≤ ((x0.length : Int) + (8 * (x1.length : Int))) ∧ Rm 1 ((x0.length : Int) + (8 * (x1.length : Int))).toNat ∧ Rm 1 (([] : List UInt8).length + x0.length) ∧ Jn1 (fun (x5_11 : List UInt8) => Q x5_11) fun J11_ => Lp2 (fun (x5_13 : List UInt8) (x20_13 : Int) next13_ => ((x20_13 < (x1.length : Int)) → (Jn1 (fun (x5_17 : List UInt8) => Ck (x20_13 + 1) ∧ next13_ x5_17 (x20_13 + 1)) fun J17_ => ∃ x19_, At x1 x20_13 x19_ ∧ Lp2 (fun (x5_21 : List UInt8) (x8_21 : Int) next21_ => ((x8_21 ≥ 0) → (Ck (8 * x8_21) ∧ 0 ≤ (8 * x8_21) ∧ Rm 1 (x5_21.length + ([(UInt8.ofBitVec (BitVec.ofInt 8 (shrI (max x19_ 0) (8 * x8_21))))] : List UInt8).length) ∧ Ck (x8_21 - 1) ∧ next21_ (x5_21 ++ ([(UInt8.ofBitVec (BitVec.ofInt 8 (shrI (max x19_ 0) (8 * x8_21))))] : List UInt8)) (x8_21 - 1))) ∧ (¬ (x8_21 ≥ 0) → (J17_ x5_21))) x5_13 7)) ∧ (¬ (x20_13 < (x1.length : Int)) → (J11_ x5_13))) (([] : List UInt8) ++ x0) 0

def octet_PutBytes (x0 : List UInt8) (x1 : List UInt8) (Q : (List UInt8) → Prop) : Prop :=
octet_Put x0 ([(x1.length : Int)] : List Int) fun (r4_0 : List UInt8) => Rm 1 (r4_0.length + x1.length) ∧ Q (r4_0 ++ x1)

def octet_PutText (x0 : List UInt8) (x1 : Str) (Q : (List UInt8) → Prop) : Prop :=
octet_PutBytes x0 x1.b fun (r4_0 : List UInt8) => Q r4_0

def sealskinref02_Put (x0 : List UInt8) (x1 : List Int) (Q : (List UInt8) → Prop) : Prop :=
Rm 1 (([] : List UInt8).length + x0.length) ∧ Jn1 (fun (x5_6 : List UInt8) => Q x5_6) fun J6_ => Lp2 (fun (x5_9 : List UInt8) (x17_9 : Int) next9_ => ((x17_9 < (x1.length : Int)) → (Jn1 (fun (x5_13 : List UInt8) => Ck (x17_9 + 1) ∧ next9_ x5_13 (x17_9 + 1)) fun J13_ => ∃ x15_, At x1 x17_9 x15_ ∧ Jn1 (fun (yb17__20 : Arr 8 UInt8) => Lp2 (fun (x5_36 : List UInt8) (x35_36 : Int) next36_ => ((x35_36 < 8) → (∃ x42_, At yb17__20.l x35_36 x42_ ∧ Rm 1 (x5_36.length + ([x42_] : List UInt8).length) ∧ Ck (x35_36 + 1) ∧ next36_ (x5_36 ++ ([x42_] : List UInt8)) (x35_36 + 1))) ∧ (¬ (x35_36 < 8) → (J13_ x5_36))) x5_9 0) fun J20_ => Lp3 (fun (x9_22 : Int) (x23_22 : Int) (yb17__22 : Arr 8 UInt8) next22_ => ((x23_22 < 8) → (Ck (7 - x23_22) ∧ ∃ x30_, At yb17__22.l (7 - x23_22) x30_ ∧ Ck (x9_22.tdiv 256) ∧ Ck (x23_22 + 1) ∧ next22_ (x9_22.tdiv 256) (x23_22 + 1) (Arr.mk (n := 8) (put yb17__22.l (7 - x23_22) (UInt8.ofBitVec (BitVec.ofInt 8 (x9_22.tmod 256))))))) ∧ (¬ (x23_22 < 8) → (J20_ yb17__22))) (max x15_ 0) 0 (Arr.mk (n := 8) (List.replicate 8 (0 : UInt8))))) ∧ (¬ (x17_9 < (x1.length : Int)) → (J6_ x5_9))) (([] : List UInt8) ++ x0) 0

end Go.Lx

namespace Go.Lx
def utf8_ValidString (x0 : Str) (Q : Bool → Prop) : Prop := x0.b.length ≤ 9223372036854775807 ∧ Q (Lib.validD x0.b)
def utf8_RuneCountInString (x0 : Str) (Q : Int → Prop) : Prop := x0.b.length ≤ 9223372036854775807 ∧ Q (Lib.runeCountL x0.b)
end Go.Lx

namespace Go.Lx
set_option linter.unusedVariables false
structure api_Part where
 Kind_ : Int
 N_ : Int
 Text_ : Str
 deriving DecidableEq, Inhabited
structure api_Msg where
 Kind_ : Int
 Who_ : Int
 Seq_ : Int
 Rev_ : Int
 At_ : Int
 N_ : Int
 Target_ : Int
 Err_ : Int
 Edit_ : List api_Part
 deriving DecidableEq, Inhabited
def edit_fits (x0 : api_Part) (Q : Bool → Prop) : Prop :=
Jn1 (fun (x10_4 : Bool) => ((x10_4 = true) → (Q false)) ∧ ((x10_4 = false) → (Jn1 (fun (x13_10 : Bool) => ((x13_10 = true) → (Q (decide (x0.Text_.b = (Str.mk []).b)))) ∧ ((x13_10 = false) → (((x0.Kind_ = 2) → (utf8_ValidString x0.Text_ fun (r18_0 : Bool) => ((r18_0 = true) → (utf8_RuneCountInString x0.Text_ fun (r20_0 : Int) => Q (decide (r20_0 = x0.N_)))) ∧ ((r18_0 = false) → (Q false)))) ∧ (¬ (x0.Kind_ = 2) → (Q false))))) fun J10_ => ((x0.Kind_ = 1) → (J10_ (decide (x0.Kind_ = 1)))) ∧ (¬ (x0.Kind_ = 1) → (J10_ (decide (x0.Kind_ = 3))))))) fun J4_ => ((x0.N_ < 1) → (J4_ true)) ∧ (¬ (x0.N_ < 1) → (J4_ (decide (x0.N_ > 1099511627776))))

def edit_sizes (x0 : List api_Part) (Q : Int → Int → Bool → Prop) : Prop :=
Jn2 (fun (x2_2 : Int) (x3_2 : Int) => Q x2_2 x3_2 true) fun J2_ => Lp3 (fun (x2_4 : Int) (x3_4 : Int) (x9_4 : Int) next4_ => ((x9_4 < (x0.length : Int)) → (∃ x10_, At x0 x9_4 x10_ ∧ Jn1 (fun (x45_14 : Bool) => ((x45_14 = true) → (Q 0 0 false)) ∧ ((x45_14 = false) → (Jn1 (fun (x2_28 : Int) => Jn1 (fun (x3_32 : Int) => Jn1 (fun (x65_36 : Bool) => ((x65_36 = true) → (Q 0 0 false)) ∧ ((x65_36 = false) → (Ck (x9_4 + 1) ∧ next4_ x2_28 x3_32 (x9_4 + 1)))) fun J36_ => ((x2_28 > 1099511627776) → (J36_ true)) ∧ (¬ (x2_28 > 1099511627776) → (J36_ (decide (x3_32 > 1099511627776))))) fun J32_ => ((x10_.Kind_ ≠ 3) → (Ck (x3_4 + x10_.N_) ∧ J32_ (x3_4 + x10_.N_))) ∧ (¬ (x10_.Kind_ ≠ 3) → (J32_ x3_4))) fun J28_ => ((x10_.Kind_ ≠ 2) → (Ck (x2_4 + x10_.N_) ∧ J28_ (x2_4 + x10_.N_))) ∧ (¬ (x10_.Kind_ ≠ 2) → (J28_ x2_4))))) fun J14_ => edit_fits x10_ fun (r16_0 : Bool) => (((!r16_0) = true) → (J14_ true)) ∧ (((!r16_0) = false) → (((x9_4 > 0) → (Ck (x9_4 - 1) ∧ ∃ x20_, At x0 (x9_4 - 1) x20_ ∧ ((x20_.Kind_ = x10_.Kind_) → (J14_ true)) ∧ (¬ (x20_.Kind_ = x10_.Kind_) → (Ck (x9_4 - 1) ∧ ∃ x23_, At x0 (x9_4 - 1) x23_ ∧ ((x23_.Kind_ = 3) → (J14_ (decide (x10_.Kind_ = 2)))) ∧ (¬ (x23_.Kind_ = 3) → (J14_ false)))))) ∧ (¬ (x9_4 > 0) → (J14_ false)))))) ∧ (¬ (x9_4 < (x0.length : Int)) → (J2_ x2_4 x3_4))) 0 0 0

def edit_Size (x0 : List api_Part) (Q : Int → Int → Int → Prop) : Prop :=
edit_sizes x0 fun (r3_0 : Int) (r3_1 : Int) (r3_2 : Bool) => (((!r3_2) = true) → (Q 0 0 30)) ∧ (((!r3_2) = false) → (Q r3_0 r3_1 0))

def edit_Weight (x0 : List api_Part) (Q : Int → Int → Prop) : Prop :=
Jn2 (fun (x2_2 : Int) (x3_2 : Int) => Q x2_2 x3_2) fun J2_ => Lp3 (fun (x2_4 : Int) (x3_4 : Int) (x8_4 : Int) next4_ => ((x8_4 < (x0.length : Int)) → (Jn2 (fun (x2_8 : Int) (x3_8 : Int) => Ck (x8_4 + 1) ∧ next4_ x2_8 x3_8 (x8_4 + 1)) fun J8_ => ∃ x10_, At x0 x8_4 x10_ ∧ edit_fits x10_ fun (r15_0 : Bool) => (((!r15_0) = true) → (Q 0 0)) ∧ (((!r15_0) = false) → (((x10_.Kind_ = 2) → (Ck (x2_4 + x10_.N_) ∧ J8_ (x2_4 + x10_.N_) x3_4)) ∧ (¬ (x10_.Kind_ = 2) → (((x10_.Kind_ = 3) → (Ck (x3_4 + x10_.N_) ∧ J8_ x2_4 (x3_4 + x10_.N_))) ∧ (¬ (x10_.Kind_ = 3) → (J8_ x2_4 x3_4)))))))) ∧ (¬ (x8_4 < (x0.length : Int)) → (J2_ x2_4 x3_4))) 0 0 0

def frame_bare (x0 : api_Msg) (Q : api_Msg → Prop) : Prop :=
Jn1 (fun (yb5__7 : api_Msg) => Q yb5__7) fun J7_ => ((x0.Kind_ = 1) → (J7_ (api_Msg.mk x0.Kind_ 0 0 x0.Rev_ 0 0 0 0 []))) ∧ (¬ (x0.Kind_ = 1) → (((x0.Kind_ = 2) → (J7_ (api_Msg.mk x0.Kind_ 0 x0.Seq_ x0.Rev_ 0 0 0 0 x0.Edit_))) ∧ (¬ (x0.Kind_ = 2) → (((x0.Kind_ = 3) → (J7_ (api_Msg.mk x0.Kind_ 0 x0.Seq_ x0.Rev_ x0.At_ x0.N_ x0.Target_ 0 []))) ∧ (¬ (x0.Kind_ = 3) → (((x0.Kind_ = 4) → (J7_ (api_Msg.mk x0.Kind_ 0 0 x0.Rev_ x0.At_ 0 0 0 []))) ∧ (¬ (x0.Kind_ = 4) → (((x0.Kind_ = 6) → (J7_ (api_Msg.mk x0.Kind_ 0 0 0 0 0 0 x0.Err_ []))) ∧ (¬ (x0.Kind_ = 6) → (((x0.Kind_ = 7) → (J7_ (api_Msg.mk x0.Kind_ 0 x0.Seq_ x0.Rev_ 0 0 0 0 []))) ∧ (¬ (x0.Kind_ = 7) → (((x0.Kind_ = 8) → (J7_ (api_Msg.mk x0.Kind_ x0.Who_ x0.Seq_ x0.Rev_ 0 0 0 0 x0.Edit_))) ∧ (¬ (x0.Kind_ = 8) → (((x0.Kind_ = 9) → (J7_ (api_Msg.mk x0.Kind_ 0 x0.Seq_ 0 0 0 0 x0.Err_ []))) ∧ (¬ (x0.Kind_ = 9) → (((x0.Kind_ = 10) → (J7_ (api_Msg.mk x0.Kind_ x0.Who_ 0 x0.Rev_ x0.At_ 0 0 0 []))) ∧ (¬ (x0.Kind_ = 10) → (J7_ (api_Msg.mk x0.Kind_ 0 0 0 0 0 0 0 [])))))))))))))))))))

def frame_same (x0 : api_Msg) (x1 : api_Msg) (Q : Bool → Prop) : Prop :=
((x0.Kind_ = x1.Kind_) → (((x0.Who_ = x1.Who_) → (((x0.Seq_ = x1.Seq_) → (((x0.Rev_ = x1.Rev_) → (((x0.At_ = x1.At_) → (((x0.N_ = x1.N_) → (((x0.Target_ = x1.Target_) → (((x0.Err_ = x1.Err_) → (Q (decide ((x0.Edit_.length : Int) = (x1.Edit_.length : Int))))) ∧ (¬ (x0.Err_ = x1.Err_) → (Q false)))) ∧ (¬ (x0.Target_ = x1.Target_) → (Q false)))) ∧ (¬ (x0.N_ = x1.N_) → (Q false)))) ∧ (¬ (x0.At_ = x1.At_) → (Q false)))) ∧ (¬ (x0.Rev_ = x1.Rev_) → (Q false)))) ∧ (¬ (x0.Seq_ = x1.Seq_) → (Q false)))) ∧ (¬ (x0.Who_ = x1.Who_) → (Q false)))) ∧ (¬ (x0.Kind_ = x1.Kind_) → (Q false))

def frame_Light (x0 : List api_Part) (Q : Bool → Prop) : Prop :=
(((x0.length : Int) > 400) → (Q false)) ∧ (¬ ((x0.length : Int) > 400) → (edit_Size x0 fun (r8_0 : Int) (r8_1 : Int) (r8_2 : Int) => ((r8_2 ≠ 0) → (Q false)) ∧ (¬ (r8_2 ≠ 0) → (edit_Weight x0 fun (r14_0 : Int) (r14_1 : Int) => Q (decide (r14_0 ≤ 256))))))

def frame_Check (x0 : api_Msg) (Q : Int → Prop) : Prop :=
Jn1 (fun (x39_4 : Bool) => ((x39_4 = true) → (Q 120)) ∧ ((x39_4 = false) → (Jn0 (Jn1 (fun (x78_33 : Bool) => ((x78_33 = true) → (Q 120)) ∧ ((x78_33 = false) → (Q 0))) fun J33_ => ((x0.Kind_ = 2) → (frame_Light x0.Edit_ fun (r35_0 : Bool) => J33_ (!r35_0))) ∧ (¬ (x0.Kind_ = 2) → (((x0.Kind_ = 8) → (frame_Light x0.Edit_ fun (r37_0 : Bool) => J33_ (!r37_0))) ∧ (¬ (x0.Kind_ = 8) → (J33_ false))))) fun J16_ => Lp1 (fun (x54_20 : Int) next20_ => ((x54_20 < (([x0.Who_, x0.Seq_, x0.Rev_, x0.At_, x0.N_, x0.Target_] : List Int).length : Int)) → (∃ x26_, At ([x0.Who_, x0.Seq_, x0.Rev_, x0.At_, x0.N_, x0.Target_] : List Int) x54_20 x26_ ∧ Jn1 (fun (x63_27 : Bool) => ((x63_27 = true) → (Q 120)) ∧ ((x63_27 = false) → (Ck (x54_20 + 1) ∧ next20_ (x54_20 + 1)))) fun J27_ => ((x26_ < 0) → (J27_ true)) ∧ (¬ (x26_ < 0) → (J27_ (decide (x26_ > 1099511627776)))))) ∧ (¬ (x54_20 < (([x0.Who_, x0.Seq_, x0.Rev_, x0.At_, x0.N_, x0.Target_] : List Int).length : Int)) → (J16_))) 0))) fun J4_ => ((x0.Kind_ < 1) → (J4_ true)) ∧ (¬ (x0.Kind_ < 1) → (((x0.Kind_ > 10) → (J4_ true)) ∧ (¬ (x0.Kind_ > 10) → (frame_bare x0 fun (r8_0 : api_Msg) => frame_same r8_0 x0 fun (r9_0 : Bool) => (((!r9_0) = true) → (J4_ true)) ∧ (((!r9_0) = false) → (((x0.Err_ < 0) → (J4_ true)) ∧ (¬ (x0.Err_ < 0) → (((x0.Err_ > 1000) → (J4_ true)) ∧ (¬ (x0.Err_ > 1000) → (((x0.Who_ ≥ 8) → (J4_ true)) ∧ (¬ (x0.Who_ ≥ 8) → (J4_ (decide (x0.Target_ ≥ 32))))))))))))))

end Go.Lx

namespace Go.Lx
set_option linter.unusedVariables false
structure octet_source where
 b_ : List UInt8
 at_ : Int
 err_ : Int
 made_ : Bool
 deriving DecidableEq, Inhabited
structure octet_Reader where
 source_ : octet_source
 deriving DecidableEq, Inhabited
def octet_Read (x0 : List UInt8) (Q : octet_Reader → Prop) : Prop :=
Rm 1 (([] : List UInt8).length + x0.length) ∧ Q (octet_Reader.mk (octet_source.mk (([] : List UInt8) ++ x0) 0 0 true))

def octet_Reader_dead (x0 : octet_Reader) (Q : Bool → Prop) : Prop :=
Q (!x0.source_.made_)

def octet_source_take (x0 : octet_source) (x1 : Int) (Q : (List UInt8) → octet_source → Prop) : Prop :=
((x0.err_ ≠ 0) → (Q [] x0)) ∧ (¬ (x0.err_ ≠ 0) → (Ck ((x0.b_.length : Int) - x0.at_) ∧ ((x1 > ((x0.b_.length : Int) - x0.at_)) → (Q [] (octet_source.mk x0.b_ x0.at_ 2 x0.made_))) ∧ (¬ (x1 > ((x0.b_.length : Int) - x0.at_)) → (Ck (x0.at_ + x1) ∧ Ck ((x0.at_ + x1) - x1) ∧ 0 ≤ ((x0.at_ + x1) - x1) ∧ ((x0.at_ + x1) - x1) ≤ (x0.at_ + x1) ∧ (x0.at_ + x1) ≤ (x0.b_.length : Int) ∧ Q (cut x0.b_ ((x0.at_ + x1) - x1) (x0.at_ + x1)) (octet_source.mk x0.b_ (x0.at_ + x1) x0.err_ x0.made_)))))

def octet_Reader_Err (x0 : octet_Reader) (Q : Int → Prop) : Prop :=
octet_Reader_dead x0 fun (r4_0 : Bool) => ((r4_0 = true) → (Q 6)) ∧ ((r4_0 = false) → (Q x0.source_.err_))

def octet_Reader_Number (x0 : octet_Reader) (Q : Int → octet_Reader → Prop) : Prop :=
octet_Reader_dead x0 fun (r4_0 : Bool) => ((r4_0 = true) → (Q 0 x0)) ∧ ((r4_0 = false) → (octet_source_take x0.source_ 8 fun (r9_0 : List UInt8) (y9_0 : octet_source) => Jn1 (fun (x3_11 : BitVec 64) => (((x3_11.toNat : Int) > 9223372036854775807) → (Ck (y9_0.at_ - 8) ∧ Q 0 (octet_Reader.mk (octet_source.mk y9_0.b_ (y9_0.at_ - 8) 5 y9_0.made_)))) ∧ (¬ ((x3_11.toNat : Int) > 9223372036854775807) → ((x3_11.toNat : Int) ≤ 9223372036854775807 ∧ Q (x3_11.toNat : Int) (octet_Reader.mk y9_0)))) fun J11_ => Lp2 (fun (x3_13 : BitVec 64) (x15_13 : Int) next13_ => ((x15_13 < (r9_0.length : Int)) → (∃ x19_, At r9_0 x15_13 x19_ ∧ Ck (x15_13 + 1) ∧ next13_ ((x3_13 <<< (8 : Nat)) ||| (x19_.toBitVec.setWidth 64)) (x15_13 + 1))) ∧ (¬ (x15_13 < (r9_0.length : Int)) → (J11_ x3_13))) (0#64) 0))

def octet_Reader_Within (x0 : octet_Reader) (x1 : Int) (x2 : Int) (Q : Int → octet_Reader → Prop) : Prop :=
Jn1 (fun (x17_3 : Bool) => ((x17_3 = true) → (Q 0 x0)) ∧ ((x17_3 = false) → (octet_Reader_Number x0 fun (r9_0 : Int) (y9_0 : octet_Reader) => Jn1 (fun (yd0_10 : octet_Reader) => ((yd0_10.source_.err_ ≠ 0) → (Q 0 yd0_10)) ∧ (¬ (yd0_10.source_.err_ ≠ 0) → (Q r9_0 yd0_10))) fun J10_ => Jn1 (fun (x35_11 : Bool) => ((x35_11 = true) → (Ck (y9_0.source_.at_ - 8) ∧ J10_ (octet_Reader.mk (octet_source.mk y9_0.source_.b_ (y9_0.source_.at_ - 8) 5 y9_0.source_.made_)))) ∧ ((x35_11 = false) → (J10_ y9_0))) fun J11_ => ((y9_0.source_.err_ = 0) → (((r9_0 < x1) → (J11_ true)) ∧ (¬ (r9_0 < x1) → (J11_ (decide (r9_0 > x2)))))) ∧ (¬ (y9_0.source_.err_ = 0) → (J11_ false))))) fun J3_ => octet_Reader_dead x0 fun (r4_0 : Bool) => ((r4_0 = true) → (J3_ true)) ∧ ((r4_0 = false) → (J3_ (decide (x0.source_.err_ ≠ 0))))

end Go.Lx

namespace Go.Lx
set_option linter.unusedVariables false
def frame_Put (x0 : api_Msg) (Q : (List UInt8) → Int → Prop) : Prop :=
frame_Check x0 fun (r5_0 : Int) => ((r5_0 ≠ 0) → (Q [] r5_0)) ∧ (¬ (r5_0 ≠ 0) → (octet_Put [] ([x0.Kind_, x0.Who_, x0.Seq_, x0.Rev_, x0.At_, x0.N_, x0.Target_, x0.Err_, (x0.Edit_.length : Int)] : List Int) fun (r12_0 : List UInt8) => Jn1 (fun (x5_14 : List UInt8) => Q x5_14 0) fun J14_ => Lp2 (fun (x5_16 : List UInt8) (x37_16 : Int) next16_ => ((x37_16 < (x0.Edit_.length : Int)) → (∃ x22_, At x0.Edit_ x37_16 x22_ ∧ octet_Put x5_16 ([x22_.Kind_, x22_.N_] : List Int) fun (r27_0 : List UInt8) => octet_PutText r27_0 x22_.Text_ fun (r29_0 : List UInt8) => Ck (x37_16 + 1) ∧ next16_ r29_0 (x37_16 + 1))) ∧ (¬ (x37_16 < (x0.Edit_.length : Int)) → (J14_ x5_16))) r12_0 0))

end Go.Lx

namespace Go.Lx
def hash_Keyed (x0 : List UInt8) (x1 : List (List UInt8)) (Q : Arr 32 UInt8 → Prop) : Prop := x0.length ≤ 1099511627776 ∧ (∀ bs ∈ x1, bs.length ≤ 1099511627776) ∧ x1.length ≤ 1099511627776 ∧ Q ⟨Bl.keyed x0 x1⟩
end Go.Lx

namespace Go.Lx
set_option linter.unusedVariables false
def cipher_tag (x0 : List UInt8) (x1 : BitVec 64) (x2 : List UInt8) (x3 : List UInt8) (Q : (List UInt8) → Prop) : Prop :=
((x1 >>> (1 : Nat)).toNat : Int) ≤ 9223372036854775807 ∧ ((x1 &&& (1#64)).toNat : Int) ≤ 9223372036854775807 ∧ octet_Put [] ([((x1 >>> (1 : Nat)).toNat : Int), ((x1 &&& (1#64)).toNat : Int), (x2.length : Int)] : List Int) fun (r6_0 : List UInt8) => 64 ≤ (x0.length : Int) ∧ hash_Keyed (cut x0 32 64) ([r6_0, x2, x3] : List (List UInt8)) fun (r13_0 : Arr 32 UInt8) => Q (List.take 16 r13_0.l)

def cipher_Seal (x0 : List UInt8) (x1 : BitVec 64) (x2 : List UInt8) (x3 : List UInt8) (Q : (List UInt8) → Int → Prop) : Prop :=
(((x0.length : Int) ≠ 64) → (Q [] 1)) ∧ (¬ ((x0.length : Int) ≠ 64) → (cipher_Turn x0 x1 x3 fun (r8_0 : List UInt8) (r8_1 : Int) => cipher_tag x0 x1 x2 r8_0 fun (r11_0 : List UInt8) => Rm 1 (r8_0.length + r11_0.length) ∧ Q (r8_0 ++ r11_0) 0))

def cipher_Open (x0 : List UInt8) (x1 : BitVec 64) (x2 : List UInt8) (x3 : List UInt8) (Q : (List UInt8) → Int → Prop) : Prop :=
(((x0.length : Int) ≠ 64) → (Q [] 1)) ∧ (¬ ((x0.length : Int) ≠ 64) → ((((x3.length : Int) < 16) → (Q [] 2)) ∧ (¬ ((x3.length : Int) < 16) → (Ck ((x3.length : Int) - 16) ∧ 0 ≤ ((x3.length : Int) - 16) ∧ ((x3.length : Int) - 16) ≤ (x3.length : Int) ∧ Ck ((x3.length : Int) - 16) ∧ 0 ≤ ((x3.length : Int) - 16) ∧ ((x3.length : Int) - 16) ≤ (x3.length : Int) ∧ cipher_tag x0 x1 x2 (cut x3 0 ((x3.length : Int) - 16)) fun (r24_0 : List UInt8) => hash_Equal (cut x3 ((x3.length : Int) - 16) (x3.length : Int)) r24_0 fun (r25_0 : Bool) => (((!r25_0) = true) → (Q [] 121)) ∧ (((!r25_0) = false) → (cipher_Turn x0 x1 (cut x3 0 ((x3.length : Int) - 16)) fun (r30_0 : List UInt8) (r30_1 : Int) => Q r30_0 r30_1))))))

end Go.Lx

namespace Go.Lx
def hash_Key (x0 x1 : List UInt8) (x2 : Int) (Q : List UInt8 → Int → Prop) : Prop := x0.length ≤ 1099511627776 ∧ x1.length ≤ 1099511627776 ∧ 0 ≤ x2 ∧ x2 ≤ 8160 ∧ Q ((Bl.keyO (Bl.keyed x0 [x1]) 255).take x2.toNat) 0
def sealskinref07_Key (x0 x1 : List UInt8) (x2 : Int) (Q : List UInt8 → Int → Prop) : Prop := x0.length ≤ 1099511627776 ∧ x1.length ≤ 1099511627776 ∧ 0 ≤ x2 ∧ x2 ≤ 8160 ∧ Q ((Bl.keyO (Bl.keyed x0 [x1]) 255).take x2.toNat) 0
end Go.Lx

namespace Go.Lx
def slices_Concat (x0 : List (List UInt8)) (Q : List UInt8 → Prop) : Prop := x0.flatten.length ≤ 1099511627776 ∧ x0.length ≤ 1099511627776 ∧ Q x0.flatten
end Go.Lx

namespace Go.Lx
set_option linter.unusedVariables false
structure api_Frame where
 Conn_ : Int
 Seq_ : Int
 Ack_ : Int
 Body_ : List UInt8
 deriving DecidableEq, Inhabited
def frame_Key (x0 : Str) (x1 : Int) (x2 : Int) (Q : (List UInt8) → Prop) : Prop :=
octet_Put [] ([x1, x2] : List Int) fun (r5_0 : List UInt8) => hash_Key x0.b r5_0 64 fun (r7_0 : List UInt8) (r7_1 : Int) => Q r7_0

def frame_head (x0 : api_Frame) (Q : (List UInt8) → Prop) : Prop :=
octet_Put [] ([x0.Conn_, x0.Seq_, x0.Ack_] : List Int) fun (r5_0 : List UInt8) => Q r5_0

def frame_once (x0 : api_Frame) (x1 : Bool) (Q : (BitVec 64) → Prop) : Prop :=
((x1 = true) → (Q ((BitVec.ofInt 64 x0.Seq_) <<< (1 : Nat)))) ∧ ((x1 = false) → (Q (((BitVec.ofInt 64 x0.Seq_) <<< (1 : Nat)) ||| (1#64))))

def frame_Fits (x0 : api_Frame) (Q : Int → Prop) : Prop :=
Jn0 (Jn1 (fun (x36_20 : Bool) => ((x36_20 = true) → (Q 120)) ∧ ((x36_20 = false) → ((((x0.Body_.length : Int) > 16320) → (Q 4)) ∧ (¬ ((x0.Body_.length : Int) > 16320) → (Q 0))))) fun J20_ => ((x0.Conn_ = 0) → (J20_ true)) ∧ (¬ (x0.Conn_ = 0) → (J20_ (!((decide (x0.Seq_ = 0)) == (decide ((x0.Body_.length : Int) = 0))))))) fun J3_ => Lp1 (fun (x13_7 : Int) next7_ => ((x13_7 < (([x0.Conn_, x0.Seq_, x0.Ack_] : List Int).length : Int)) → (∃ x13_, At ([x0.Conn_, x0.Seq_, x0.Ack_] : List Int) x13_7 x13_ ∧ Jn1 (fun (x22_14 : Bool) => ((x22_14 = true) → (Q 120)) ∧ ((x22_14 = false) → (Ck (x13_7 + 1) ∧ next7_ (x13_7 + 1)))) fun J14_ => ((x13_ < 0) → (J14_ true)) ∧ (¬ (x13_ < 0) → (J14_ (decide (x13_ > 1099511627776)))))) ∧ (¬ (x13_7 < (([x0.Conn_, x0.Seq_, x0.Ack_] : List Int).length : Int)) → (J3_))) 0

def frame_Wrap (x0 : List UInt8) (x1 : Bool) (x2 : api_Frame) (Q : (List UInt8) → Int → Prop) : Prop :=
frame_Fits x2 fun (r5_0 : Int) => ((r5_0 ≠ 0) → (Q [] r5_0)) ∧ (¬ (r5_0 ≠ 0) → (frame_head x2 fun (r12_0 : List UInt8) => frame_once x2 x1 fun (r16_0 : BitVec 64) => cipher_Seal x0 r16_0 r12_0 x2.Body_ fun (r17_0 : List UInt8) (r17_1 : Int) => ((r17_1 ≠ 0) → (Q [] r17_1)) ∧ (¬ (r17_1 ≠ 0) → (slices_Concat ([r12_0, r17_0] : List (List UInt8)) fun (r27_0 : List UInt8) => Q r27_0 0))))

def frame_Peek (x0 : List UInt8) (Q : api_Frame → Int → Prop) : Prop :=
0 ≤ (min (x0.length : Int) 24) ∧ (min (x0.length : Int) 24) ≤ (x0.length : Int) ∧ octet_Read (cut x0 0 (min (x0.length : Int) 24)) fun (r7_0 : octet_Reader) => octet_Reader_Within r7_0 1 1099511627776 fun (r10_0 : Int) (y10_0 : octet_Reader) => octet_Reader_Within y10_0 0 1099511627776 fun (r11_0 : Int) (y11_0 : octet_Reader) => octet_Reader_Within y11_0 0 1099511627776 fun (r12_0 : Int) (y12_0 : octet_Reader) => Jn1 (fun (x40_17 : Bool) => ((x40_17 = true) → (Q (api_Frame.mk 0 0 0 []) 120)) ∧ ((x40_17 = false) → (Q (api_Frame.mk r10_0 r11_0 r12_0 []) 0))) fun J17_ => octet_Reader_Err y12_0 fun (r18_0 : Int) => ((r18_0 ≠ 0) → (J17_ true)) ∧ (¬ (r18_0 ≠ 0) → ((((x0.length : Int) < 40) → (J17_ true)) ∧ (¬ ((x0.length : Int) < 40) → ((((!((decide (r11_0 = 0)) == (decide ((x0.length : Int) = 40)))) = true) → (J17_ true)) ∧ (((!((decide (r11_0 = 0)) == (decide ((x0.length : Int) = 40)))) = false) → (J17_ (decide ((x0.length : Int) > 16360))))))))

def frame_Unwrap (x0 : List UInt8) (x1 : Bool) (x2 : List UInt8) (Q : api_Frame → Int → Prop) : Prop :=
frame_Peek x2 fun (r4_0 : api_Frame) (r4_1 : Int) => ((r4_1 ≠ 0) → (Q r4_0 r4_1)) ∧ (¬ (r4_1 ≠ 0) → (24 ≤ (x2.length : Int) ∧ 24 ≤ (x2.length : Int) ∧ frame_once r4_0 x1 fun (r20_0 : BitVec 64) => cipher_Open x0 r20_0 (cut x2 0 24) (cut x2 24 (x2.length : Int)) fun (r21_0 : List UInt8) (r21_1 : Int) => ((r21_1 ≠ 0) → (Q (api_Frame.mk 0 0 0 []) r21_1)) ∧ (¬ (r21_1 ≠ 0) → (Jn1 (fun (yb5__30 : api_Frame) => Q yb5__30 0) fun J30_ => (((r21_0.length : Int) > 0) → (J30_ (api_Frame.mk r4_0.Conn_ r4_0.Seq_ r4_0.Ack_ r21_0))) ∧ (¬ ((r21_0.length : Int) > 0) → (J30_ r4_0))))))

def sealskinref13_Key (x0 : Str) (x1 : Int) (x2 : Int) (Q : (List UInt8) → Prop) : Prop :=
sealskinref02_Put [] ([x1, x2] : List Int) fun (r5_0 : List UInt8) => sealskinref07_Key x0.b r5_0 64 fun (r7_0 : List UInt8) (r7_1 : Int) => Q r7_0

end Go.Lx

namespace Go.Lx
set_option linter.unusedVariables false
def sealskinlaw13_awake  (Q : Bool → Prop) : Prop :=
frame_Put (api_Msg.mk 5 0 0 0 0 0 0 0 []) fun (r3_0 : List UInt8) (r3_1 : Int) => frame_Key (Str.mk [115]) 1 2 fun (r7_0 : List UInt8) => frame_Wrap r7_0 true (api_Frame.mk 2 0 3 []) fun (r9_0 : List UInt8) (r9_1 : Int) => frame_Unwrap r7_0 true r9_0 fun (r12_0 : api_Frame) (r12_1 : Int) => frame_Unwrap r7_0 false r9_0 fun (r17_0 : api_Frame) (r17_1 : Int) => ((r3_1 = 0) → ((((r3_0.length : Int) = 72) → (((r9_1 = 0) → ((((r9_0.length : Int) = 40) → (((r12_1 = 0) → (((r12_0.Ack_ = 3) → (((r17_1 = 121) → (Q (decide ((r7_0.length : Int) = 64)))) ∧ (¬ (r17_1 = 121) → (Q false)))) ∧ (¬ (r12_0.Ack_ = 3) → (Q false)))) ∧ (¬ (r12_1 = 0) → (Q false)))) ∧ (¬ ((r9_0.length : Int) = 40) → (Q false)))) ∧ (¬ (r9_1 = 0) → (Q false)))) ∧ (¬ ((r3_0.length : Int) = 72) → (Q false)))) ∧ (¬ (r3_1 = 0) → (Q false))
end Go.Lx

namespace Go.Lx
set_option linter.unusedVariables false
def sealskinlaw13_FrameKeys (x0 : Str) (x1 : Int) (x2 : Int) (Q : Bool → Prop) : Prop :=
(((x0.b.length : Int) > 16384) → (sealskinlaw13_awake  fun (r4_0 : Bool) => Q r4_0)) ∧ (¬ ((x0.b.length : Int) > 16384) → (frame_Key x0 x1 x2 fun (r6_0 : List UInt8) => sealskinref13_Key x0 x1 x2 fun (r7_0 : List UInt8) => bytes_Equal r6_0 r7_0 fun (r8_0 : Bool) => ((r8_0 = true) → (sealskinlaw13_awake  fun (r10_0 : Bool) => Q r10_0)) ∧ ((r8_0 = false) → (Q false))))
end Go.Lx

