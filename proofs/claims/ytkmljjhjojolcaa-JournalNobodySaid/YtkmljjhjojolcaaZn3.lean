/- What is shown of the program on the way to the law. -/
import Derived.Test.YtkmljjhjojolcaaZn2
set_option linter.unusedVariables false
set_option linter.unusedSimpArgs false
set_option maxHeartbeats 4000000
namespace Go.Lx
set_option linter.unusedVariables false
def disk_New (x0 : Int) (Q0 : Int → Prop) (Q1 : Int → disk_Disk → Prop) : Prop :=
Jn1 (fun (x9_3 : Bool) => ((x9_3 = true) → (Q0 1)) ∧ ((x9_3 = false) → (Q1 0 (disk_Disk.mk (arr3_List_UInt8.mk [] [] []) x0 false false 0)))) fun J3_ => ((x0 < 1) → (J3_ true)) ∧ (¬ (x0 < 1) → (J3_ (decide (x0 > 16777216))))

def disk_Disk_able (z0 : disk_Disk) (x1 : Int) (Q : Int → Prop) : Prop :=
Jn1 (fun (x5_3 : Bool) => ((x5_3 = true) → (Q 6)) ∧ ((x5_3 = false) → (((z0.off_ = true) → (Q 50)) ∧ ((z0.off_ = false) → (Jn1 (fun (x20_10 : Bool) => ((x20_10 = true) → (Q 51)) ∧ ((x20_10 = false) → (Q 0))) fun J10_ => ((x1 < 0) → (J10_ true)) ∧ (¬ (x1 < 0) → (J10_ (decide (x1 ≥ 3))))))))) fun J3_ => J3_ (decide (z0.room_ = 0))

def disk_Disk_Read (z0 : disk_Disk) (x1 : Int) (Q : (List UInt8) → Int → Prop) : Prop :=
disk_Disk_able z0 x1 fun (r4_0 : Int) => ((r4_0 ≠ 0) → (Q [] r4_0)) ∧ (¬ (r4_0 ≠ 0) → ((0 ≤ x1 ∧ x1 < 3) ∧ (x1 = 0 → Rm 1 (([] : List UInt8).length + z0.files_.e0_.length) ∧ Q (([] : List UInt8) ++ z0.files_.e0_) 0) ∧ (x1 = 1 → Rm 1 (([] : List UInt8).length + z0.files_.e1_.length) ∧ Q (([] : List UInt8) ++ z0.files_.e1_) 0) ∧ (x1 = 2 → Rm 1 (([] : List UInt8).length + z0.files_.e2_.length) ∧ Q (([] : List UInt8) ++ z0.files_.e2_) 0)))

def octet_Read (x0 : List UInt8) (Q : octet_Reader → Prop) : Prop :=
Rm 1 (([] : List UInt8).length + x0.length) ∧ Q (octet_Reader.mk (octet_source.mk (([] : List UInt8) ++ x0) 0 0 true))

def octet_Reader_dead (z0 : octet_Reader) (Q : Bool → Prop) : Prop :=
Q (!z0.source_.made_)

def octet_source_take (z0 : octet_source) (x1 : Int) (Q : (List UInt8) → octet_source → Prop) : Prop :=
((z0.err_ ≠ 0) → (Q [] z0)) ∧ (¬ (z0.err_ ≠ 0) → (Ck ((z0.b_.length : Int) - z0.at_) ∧ ((x1 > ((z0.b_.length : Int) - z0.at_)) → (Q [] (octet_source.mk z0.b_ z0.at_ 2 z0.made_))) ∧ (¬ (x1 > ((z0.b_.length : Int) - z0.at_)) → (Ck (z0.at_ + x1) ∧ Ck ((z0.at_ + x1) - x1) ∧ 0 ≤ ((z0.at_ + x1) - x1) ∧ ((z0.at_ + x1) - x1) ≤ (z0.at_ + x1) ∧ (z0.at_ + x1) ≤ (z0.b_.length : Int) ∧ Q (cut z0.b_ ((z0.at_ + x1) - x1) (z0.at_ + x1)) (octet_source.mk z0.b_ (z0.at_ + x1) z0.err_ z0.made_)))))

def octet_Reader_Number (z0 : octet_Reader) (Q : Int → octet_Reader → Prop) : Prop :=
octet_Reader_dead z0 fun (r4_0 : Bool) => ((r4_0 = true) → (Q 0 z0)) ∧ ((r4_0 = false) → (octet_source_take z0.source_ 8 fun (r9_0 : List UInt8) (y9_o0 : octet_source) => Jn1 (fun (x3_11 : BitVec 64) => (((x3_11.toNat : Int) > 9223372036854775807) → (Ck (y9_o0.at_ - 8) ∧ Q 0 (octet_Reader.mk (octet_source.mk y9_o0.b_ (y9_o0.at_ - 8) 5 y9_o0.made_)))) ∧ (¬ ((x3_11.toNat : Int) > 9223372036854775807) → ((x3_11.toNat : Int) ≤ 9223372036854775807 ∧ Q (x3_11.toNat : Int) (octet_Reader.mk y9_o0)))) fun J11_ => Lp2 (fun (x3_13 : BitVec 64) (x15_13 : Int) next13_ => ((x15_13 < (r9_0.length : Int)) → (∃ x19_, At r9_0 x15_13 x19_ ∧ Ck (x15_13 + 1) ∧ next13_ ((x3_13 <<< (8 : Nat)) ||| (x19_.toBitVec.setWidth 64)) (x15_13 + 1))) ∧ (¬ (x15_13 < (r9_0.length : Int)) → (J11_ x3_13))) (0#64) 0))

def octet_Reader_Bytes (z0 : octet_Reader) (x1 : Int) (Q : (List UInt8) → octet_Reader → Prop) : Prop :=
Jn1 (fun (x17_3 : Bool) => ((x17_3 = true) → (Q [] z0)) ∧ ((x17_3 = false) → (octet_Reader_Number z0 fun (r11_0 : Int) (y11_o0 : octet_Reader) => Jn1 (fun (yd0_12 : octet_Reader) => octet_source_take yd0_12.source_ r11_0 fun (r18_0 : List UInt8) (y18_o0 : octet_source) => ((y18_o0.err_ ≠ 0) → (Q [] (octet_Reader.mk (octet_source.mk y18_o0.b_ z0.source_.at_ y18_o0.err_ y18_o0.made_)))) ∧ (¬ (y18_o0.err_ ≠ 0) → (Rm 1 (([] : List UInt8).length + r18_0.length) ∧ Q (([] : List UInt8) ++ r18_0) (octet_Reader.mk y18_o0)))) fun J12_ => Jn1 (fun (x36_13 : Bool) => ((x36_13 = true) → (J12_ (octet_Reader.mk (octet_source.mk y11_o0.source_.b_ y11_o0.source_.at_ 4 y11_o0.source_.made_)))) ∧ ((x36_13 = false) → (J12_ y11_o0))) fun J13_ => ((y11_o0.source_.err_ = 0) → (J13_ (decide (r11_0 > (max x1 0))))) ∧ (¬ (y11_o0.source_.err_ = 0) → (J13_ false))))) fun J3_ => octet_Reader_dead z0 fun (r4_0 : Bool) => ((r4_0 = true) → (J3_ true)) ∧ ((r4_0 = false) → (J3_ (decide (z0.source_.err_ ≠ 0))))

def octet_Reader_Err (z0 : octet_Reader) (Q : Int → Prop) : Prop :=
octet_Reader_dead z0 fun (r4_0 : Bool) => ((r4_0 = true) → (Q 6)) ∧ ((r4_0 = false) → (Q z0.source_.err_))

def octet_source_left (z0 : octet_source) (Q : Int → Prop) : Prop :=
Ck ((z0.b_.length : Int) - z0.at_) ∧ Q ((z0.b_.length : Int) - z0.at_)

def octet_Reader_Left (z0 : octet_Reader) (Q : Int → Prop) : Prop :=
octet_source_left z0.source_ fun (r5_0 : Int) => Q r5_0

def octet_Sum (x0 : List UInt8) (Q : (BitVec 32) → Prop) : Prop :=
Jn1 (fun (x3_3 : BitVec 32) => Q x3_3) fun J3_ => Lp2 (fun (x3_5 : BitVec 32) (x9_5 : Int) next5_ => ((x9_5 < (x0.length : Int)) → (Jn1 (fun (x3_9 : BitVec 32) => Ck (x9_5 + 1) ∧ next5_ x3_9 (x9_5 + 1)) fun J9_ => ∃ x11_, At x0 x9_5 x11_ ∧ Lp2 (fun (x3_15 : BitVec 32) (x18_15 : Int) next15_ => ((x18_15 < 8) → (Ck (x18_15 + 1) ∧ next15_ ((x3_15 <<< (1 : Nat)) ^^^ ((x3_15 >>> (31 : Nat)) * (2168537515#32))) (x18_15 + 1))) ∧ (¬ (x18_15 < 8) → (J9_ x3_15))) (x3_5 ^^^ ((x11_.toBitVec.setWidth 32) <<< (24 : Nat))) 0)) ∧ (¬ (x9_5 < (x0.length : Int)) → (J3_ x3_5))) (4294967295#32) 0

def octet_Open (x0 : List UInt8) (Q : (List UInt8) → Int → Int → Prop) : Prop :=
octet_Read x0 fun (y3_o0 : octet_Reader) => octet_Reader_Bytes y3_o0 16384 fun (r5_0 : List UInt8) (y5_o0 : octet_Reader) => octet_Reader_Err y5_o0 fun (r9_0 : Int) => ((r9_0 ≠ 0) → (octet_Reader_Err y5_o0 fun (r12_0 : Int) => Q [] 0 r12_0)) ∧ (¬ (r9_0 ≠ 0) → (octet_Reader_Left y5_o0 fun (r15_0 : Int) => Ck ((x0.length : Int) - r15_0) ∧ octet_source_take y5_o0.source_ 4 fun (r19_0 : List UInt8) (y19_o0 : octet_source) => (((r19_0.length : Int) < 4) → (Q [] 0 2)) ∧ (¬ ((r19_0.length : Int) < 4) → (0 ≤ ((x0.length : Int) - r15_0) ∧ ((x0.length : Int) - r15_0) ≤ (x0.length : Int) ∧ octet_Sum (cut x0 0 ((x0.length : Int) - r15_0)) fun (r30_0 : BitVec 32) => Jn1 (fun (x67_32 : Bool) => ((x67_32 = true) → (Q [] 0 20)) ∧ ((x67_32 = false) → (Ck (((x0.length : Int) - r15_0) + 4) ∧ Q r5_0 (((x0.length : Int) - r15_0) + 4) 0))) fun J32_ => ∃ x33_, At r19_0 0 x33_ ∧ ((((UInt8.ofBitVec ((r30_0 >>> (24 : Nat)).setWidth 8)).toNat : Int) ≠ (x33_.toNat : Int)) → (J32_ true)) ∧ (¬ (((UInt8.ofBitVec ((r30_0 >>> (24 : Nat)).setWidth 8)).toNat : Int) ≠ (x33_.toNat : Int)) → (∃ x35_, At r19_0 1 x35_ ∧ ((((UInt8.ofBitVec ((r30_0 >>> (16 : Nat)).setWidth 8)).toNat : Int) ≠ (x35_.toNat : Int)) → (J32_ true)) ∧ (¬ (((UInt8.ofBitVec ((r30_0 >>> (16 : Nat)).setWidth 8)).toNat : Int) ≠ (x35_.toNat : Int)) → (∃ x37_, At r19_0 2 x37_ ∧ ((((UInt8.ofBitVec ((r30_0 >>> (8 : Nat)).setWidth 8)).toNat : Int) ≠ (x37_.toNat : Int)) → (J32_ true)) ∧ (¬ (((UInt8.ofBitVec ((r30_0 >>> (8 : Nat)).setWidth 8)).toNat : Int) ≠ (x37_.toNat : Int)) → (∃ x39_, At r19_0 3 x39_ ∧ J32_ (decide (((UInt8.ofBitVec (r30_0.setWidth 8)).toNat : Int) ≠ (x39_.toNat : Int)))))))))))))

end Go.Lx

namespace Go.Lx
set_option linter.unusedVariables false
def octet_All (x0 : List UInt8) (Q : (List (List UInt8)) → Int → Prop) : Prop :=
Lp2 (fun (x4_4 : List (List UInt8)) (x5_4 : Int) next4_ => 0 ≤ x5_4 ∧ x5_4 ≤ (x0.length : Int) ∧ octet_Open (cut x0 x5_4 (x0.length : Int)) fun (r9_0 : List UInt8) (r9_1 : Int) (r9_2 : Int) => ((r9_2 ≠ 0) → (Q x4_4 x5_4)) ∧ (¬ (r9_2 ≠ 0) → (Rm 24 (x4_4.length + ([r9_0] : List (List UInt8)).length) ∧ Ck (x5_4 + r9_1) ∧ next4_ (x4_4 ++ ([r9_0] : List (List UInt8))) (x5_4 + r9_1)))) [] 0

def octet_Reader_Within (z0 : octet_Reader) (x1 : Int) (x2 : Int) (Q : Int → octet_Reader → Prop) : Prop :=
Jn1 (fun (x17_3 : Bool) => ((x17_3 = true) → (Q 0 z0)) ∧ ((x17_3 = false) → (octet_Reader_Number z0 fun (r9_0 : Int) (y9_o0 : octet_Reader) => Jn1 (fun (yd0_10 : octet_Reader) => ((yd0_10.source_.err_ ≠ 0) → (Q 0 yd0_10)) ∧ (¬ (yd0_10.source_.err_ ≠ 0) → (Q r9_0 yd0_10))) fun J10_ => Jn1 (fun (x35_11 : Bool) => ((x35_11 = true) → (Ck (y9_o0.source_.at_ - 8) ∧ J10_ (octet_Reader.mk (octet_source.mk y9_o0.source_.b_ (y9_o0.source_.at_ - 8) 5 y9_o0.source_.made_)))) ∧ ((x35_11 = false) → (J10_ y9_o0))) fun J11_ => ((y9_o0.source_.err_ = 0) → (((r9_0 < x1) → (J11_ true)) ∧ (¬ (r9_0 < x1) → (J11_ (decide (r9_0 > x2)))))) ∧ (¬ (y9_o0.source_.err_ = 0) → (J11_ false))))) fun J3_ => octet_Reader_dead z0 fun (r4_0 : Bool) => ((r4_0 = true) → (J3_ true)) ∧ ((r4_0 = false) → (J3_ (decide (z0.source_.err_ ≠ 0))))

def octet_Reader_End (z0 : octet_Reader) (Q : Int → Prop) : Prop :=
octet_Reader_Err z0 fun (r3_0 : Int) => Jn1 (fun (x14_5 : Bool) => ((x14_5 = true) → (Q 3)) ∧ ((x14_5 = false) → (Q r3_0))) fun J5_ => ((r3_0 = 0) → (octet_source_left z0.source_ fun (r7_0 : Int) => J5_ (decide (r7_0 > 0)))) ∧ (¬ (r3_0 = 0) → (J5_ false))

def journal_Open_1 (x0 : Int) (x1 : Int) (Q : Int → Bool → Prop) : Prop :=
Q 0 true

def journal_read (x0 : List UInt8) (x1 : Int) (Q : journal_record → Bool → Prop) : Prop :=
octet_Read x0 fun (y4_o0 : octet_Reader) => octet_Reader_Number y4_o0 fun (r6_0 : Int) (y6_o0 : octet_Reader) => octet_Reader_Within y6_o0 0 31 fun (r9_0 : Int) (y9_o0 : octet_Reader) => octet_Reader_Bytes y9_o0 16320 fun (r13_0 : List UInt8) (y13_o0 : octet_Reader) => octet_Reader_End y13_o0 fun (r19_0 : Int) => ((r19_0 = 0) → (Q (journal_record.mk r9_0 r13_0) (decide (r6_0 = x1)))) ∧ (¬ (r19_0 = 0) → (Q (journal_record.mk r9_0 r13_0) false))

def journal_opened (x0 : List UInt8) (Q : Int → Int → (List journal_record) → Bool → Bool → Prop) : Prop :=
octet_All x0 fun (r3_0 : List (List UInt8)) (r3_1 : Int) => (((r3_0.length : Int) = 0) → (Q 0 0 [] false false)) ∧ (¬ ((r3_0.length : Int) = 0) → (∃ x12_, At r3_0 0 x12_ ∧ octet_Read x12_ fun (y13_o0 : octet_Reader) => octet_Reader_Within y13_o0 1 1099511627776 fun (r16_0 : Int) (y16_o0 : octet_Reader) => octet_Reader_Within y16_o0 0 1099511627776 fun (r17_0 : Int) (y17_o0 : octet_Reader) => octet_Reader_End y17_o0 fun (r20_0 : Int) => ((r20_0 ≠ 0) → (Q 0 0 [] false false)) ∧ (¬ (r20_0 ≠ 0) → (journal_Open_1 r16_0 r17_0 fun (r25_0 : Int) (r25_1 : Bool) => (((!r25_1) = true) → (Q 0 0 [] false false)) ∧ (((!r25_1) = false) → (Jn3 (fun (x4_32 : Int) (x5_32 : Int) (x6_32 : List journal_record) => Q x4_32 x5_32 x6_32 (decide (r3_1 = (x0.length : Int))) true) fun J32_ => 1 ≤ (r3_0.length : Int) ∧ Lp4 (fun (x4_36 : Int) (x5_36 : Int) (x6_36 : List journal_record) (x48_36 : Int) next36_ => ((x48_36 < ((cut r3_0 1 (r3_0.length : Int)).length : Int)) → (∃ x42_, At (cut r3_0 1 (r3_0.length : Int)) x48_36 x42_ ∧ Ck (r25_0 + (x6_36.length : Int)) ∧ journal_read x42_ (r25_0 + (x6_36.length : Int)) fun (r45_0 : journal_record) (r45_1 : Bool) => (((!r45_1) = true) → (Q x4_36 x5_36 x6_36 false true)) ∧ (((!r45_1) = false) → (Rm 32 (x6_36.length + ([r45_0] : List journal_record).length) ∧ Ck (x48_36 + 1) ∧ next36_ x4_36 x5_36 (x6_36 ++ ([r45_0] : List journal_record)) (x48_36 + 1))))) ∧ (¬ (x48_36 < ((cut r3_0 1 (r3_0.length : Int)).length : Int)) → (J32_ x4_36 x5_36 x6_36))) r16_0 r17_0 [] 0))))))

def journal_book_add (z0 : journal_Journal) (z1 : List (Int × Int)) (z2 : disk_Disk) (x1 : journal_record) (Q : journal_Journal → (List (Int × Int)) → Prop) : Prop :=
0 ≤ (z0.book_.l_.length : Int) ∧ Rm 32 ((cut z0.book_.l_ 0 (z0.book_.l_.length : Int)).length + ([x1] : List journal_record).length) ∧ Ck (((mget z1 x1.label_).getD 0) + (x1.data_.length : Int)) ∧ Q (journal_Journal.mk (journal_book.mk ((cut z0.book_.l_ 0 (z0.book_.l_.length : Int)) ++ ([x1] : List journal_record))) z0.gen_ z0.place_) (mput z1 x1.label_ (((mget z1 x1.label_).getD 0) + (x1.data_.length : Int)))

def journal_Open_2 (x0 : Int) (x1 : Int) (z0 : List journal_record) (z1 : Unit) (z2 : journal_Journal) (z3 : List (Int × Int)) (z4 : disk_Disk) (Q : Int → Bool → Prop) : Prop :=
((x0 = z2.gen_) → (Q (z0.length : Int) (decide (x1 = (z0.length : Int))))) ∧ (¬ (x0 = z2.gen_) → (Q (z0.length : Int) false))

def journal_opened_v1 (x0 : List UInt8) (z0 : List journal_record) (z1 : Unit) (z2 : journal_Journal) (z3 : List (Int × Int)) (z4 : disk_Disk) (Q : Int → Int → (List journal_record) → Bool → Bool → Prop) : Prop :=
octet_All x0 fun (r3_0 : List (List UInt8)) (r3_1 : Int) => (((r3_0.length : Int) = 0) → (Q 0 0 [] false false)) ∧ (¬ ((r3_0.length : Int) = 0) → (∃ x12_, At r3_0 0 x12_ ∧ octet_Read x12_ fun (y13_o0 : octet_Reader) => octet_Reader_Within y13_o0 1 1099511627776 fun (r16_0 : Int) (y16_o0 : octet_Reader) => octet_Reader_Within y16_o0 0 1099511627776 fun (r17_0 : Int) (y17_o0 : octet_Reader) => octet_Reader_End y17_o0 fun (r20_0 : Int) => ((r20_0 ≠ 0) → (Q 0 0 [] false false)) ∧ (¬ (r20_0 ≠ 0) → (journal_Open_2 r16_0 r17_0 z0 () z2 z3 z4 fun (r25_0 : Int) (r25_1 : Bool) => (((!r25_1) = true) → (Q 0 0 [] false false)) ∧ (((!r25_1) = false) → (Jn3 (fun (x4_32 : Int) (x5_32 : Int) (x6_32 : List journal_record) => Q x4_32 x5_32 x6_32 (decide (r3_1 = (x0.length : Int))) true) fun J32_ => 1 ≤ (r3_0.length : Int) ∧ Lp4 (fun (x4_36 : Int) (x5_36 : Int) (x6_36 : List journal_record) (x48_36 : Int) next36_ => ((x48_36 < ((cut r3_0 1 (r3_0.length : Int)).length : Int)) → (∃ x42_, At (cut r3_0 1 (r3_0.length : Int)) x48_36 x42_ ∧ Ck (r25_0 + (x6_36.length : Int)) ∧ journal_read x42_ (r25_0 + (x6_36.length : Int)) fun (r45_0 : journal_record) (r45_1 : Bool) => (((!r45_1) = true) → (Q x4_36 x5_36 x6_36 false true)) ∧ (((!r45_1) = false) → (Rm 32 (x6_36.length + ([r45_0] : List journal_record).length) ∧ Ck (x48_36 + 1) ∧ next36_ x4_36 x5_36 (x6_36 ++ ([r45_0] : List journal_record)) (x48_36 + 1))))) ∧ (¬ (x48_36 < ((cut r3_0 1 (r3_0.length : Int)).length : Int)) → (J32_ x4_36 x5_36 x6_36))) r16_0 r17_0 [] 0))))))

end Go.Lx

namespace Go.Lx
set_option linter.unusedVariables false
def journal_Journal_dead (z0 : journal_Journal) (z1 : List (Int × Int)) (z2 : disk_Disk) (Q : Bool → Prop) : Prop :=
Q false

def octet_Put (x0 : List UInt8) (x1 : List Int) (Q : (List UInt8) → Prop) : Prop :=
Ck (8 * (x1.length : Int)) ∧ Ck ((x0.length : Int) + (8 * (x1.length : Int))) ∧ 0 ≤ ((x0.length : Int) + (8 * (x1.length : Int))) ∧ Rm 1 ((x0.length : Int) + (8 * (x1.length : Int))).toNat ∧ Rm 1 (([] : List UInt8).length + x0.length) ∧ Jn1 (fun (x5_11 : List UInt8) => Q x5_11) fun J11_ => Lp2 (fun (x5_13 : List UInt8) (x20_13 : Int) next13_ => ((x20_13 < (x1.length : Int)) → (Jn1 (fun (x5_17 : List UInt8) => Ck (x20_13 + 1) ∧ next13_ x5_17 (x20_13 + 1)) fun J17_ => ∃ x19_, At x1 x20_13 x19_ ∧ Lp2 (fun (x5_21 : List UInt8) (x8_21 : Int) next21_ => ((x8_21 ≥ 0) → (Ck (8 * x8_21) ∧ 0 ≤ (8 * x8_21) ∧ Rm 1 (x5_21.length + ([(UInt8.ofBitVec (BitVec.ofInt 8 (shrI (max x19_ 0) (8 * x8_21))))] : List UInt8).length) ∧ Ck (x8_21 - 1) ∧ next21_ (x5_21 ++ ([(UInt8.ofBitVec (BitVec.ofInt 8 (shrI (max x19_ 0) (8 * x8_21))))] : List UInt8)) (x8_21 - 1))) ∧ (¬ (x8_21 ≥ 0) → (J17_ x5_21))) x5_13 7)) ∧ (¬ (x20_13 < (x1.length : Int)) → (J11_ x5_13))) (([] : List UInt8) ++ x0) 0

def octet_PutBytes (x0 : List UInt8) (x1 : List UInt8) (Q : (List UInt8) → Prop) : Prop :=
octet_Put x0 ([(x1.length : Int)] : List Int) fun (r4_0 : List UInt8) => Rm 1 (r4_0.length + x1.length) ∧ Q (r4_0 ++ x1)

def octet_Seal (x0 : List UInt8) (Q : (List UInt8) → Int → Prop) : Prop :=
(((x0.length : Int) > 16384) → (Q [] 4)) ∧ (¬ ((x0.length : Int) > 16384) → (octet_PutBytes [] x0 fun (r7_0 : List UInt8) => octet_Sum r7_0 fun (r10_0 : BitVec 32) => Rm 1 (r7_0.length + ([(UInt8.ofBitVec ((r10_0 >>> (24 : Nat)).setWidth 8)), (UInt8.ofBitVec ((r10_0 >>> (16 : Nat)).setWidth 8)), (UInt8.ofBitVec ((r10_0 >>> (8 : Nat)).setWidth 8)), (UInt8.ofBitVec (r10_0.setWidth 8))] : List UInt8).length) ∧ Q (r7_0 ++ ([(UInt8.ofBitVec ((r10_0 >>> (24 : Nat)).setWidth 8)), (UInt8.ofBitVec ((r10_0 >>> (16 : Nat)).setWidth 8)), (UInt8.ofBitVec ((r10_0 >>> (8 : Nat)).setWidth 8)), (UInt8.ofBitVec (r10_0.setWidth 8))] : List UInt8)) 0))

def journal_seal (x0 : List UInt8) (Q : (List UInt8) → Prop) : Prop :=
octet_Seal x0 fun (r3_0 : List UInt8) (r3_1 : Int) => Q r3_0

def journal_head (x0 : Int) (x1 : Int) (Q : (List UInt8) → Prop) : Prop :=
octet_Put [] ([x0, x1] : List Int) fun (r4_0 : List UInt8) => journal_seal r4_0 fun (r6_0 : List UInt8) => Q r6_0

def journal_tell (x0 : Int) (x1 : journal_record) (Q : (List UInt8) → Prop) : Prop :=
octet_Put [] ([x0, x1.label_] : List Int) fun (r6_0 : List UInt8) => octet_PutBytes r6_0 x1.data_ fun (r8_0 : List UInt8) => journal_seal r8_0 fun (r10_0 : List UInt8) => Q r10_0

def disk_Disk_burn (z0 : disk_Disk) (x1 : Int) (Q : Int → disk_Disk → Prop) : Prop :=
(((!z0.armed_) = true) → (Q x1 z0)) ∧ (((!z0.armed_) = false) → (((x1 < z0.left_) → (Ck (z0.left_ - x1) ∧ Q x1 (disk_Disk.mk z0.files_ z0.room_ z0.off_ z0.armed_ (z0.left_ - x1)))) ∧ (¬ (x1 < z0.left_) → (Q z0.left_ (disk_Disk.mk z0.files_ z0.room_ true false 0)))))

def disk_Disk_done (z0 : disk_Disk) (Q : Int → Prop) : Prop :=
((z0.off_ = true) → (Q 50)) ∧ ((z0.off_ = false) → (Q 0))

def disk_Disk_Wipe (z0 : disk_Disk) (x1 : Int) (Q : Int → disk_Disk → Prop) : Prop :=
disk_Disk_able z0 x1 fun (r4_0 : Int) => ((r4_0 ≠ 0) → (Q r4_0 z0)) ∧ (¬ (r4_0 ≠ 0) → (Jn1 (fun (yd0_10 : disk_Disk) => disk_Disk_done yd0_10 fun (r19_0 : Int) => Q r19_0 yd0_10) fun J10_ => disk_Disk_burn z0 1 fun (r12_0 : Int) (y12_o0 : disk_Disk) => ((r12_0 = 1) → ((0 ≤ x1 ∧ x1 < 3) ∧ (x1 = 0 → J10_ (disk_Disk.mk (arr3_List_UInt8.mk [] y12_o0.files_.e1_ y12_o0.files_.e2_) y12_o0.room_ y12_o0.off_ y12_o0.armed_ y12_o0.left_)) ∧ (x1 = 1 → J10_ (disk_Disk.mk (arr3_List_UInt8.mk y12_o0.files_.e0_ [] y12_o0.files_.e2_) y12_o0.room_ y12_o0.off_ y12_o0.armed_ y12_o0.left_)) ∧ (x1 = 2 → J10_ (disk_Disk.mk (arr3_List_UInt8.mk y12_o0.files_.e0_ y12_o0.files_.e1_ []) y12_o0.room_ y12_o0.off_ y12_o0.armed_ y12_o0.left_)))) ∧ (¬ (r12_0 = 1) → (J10_ y12_o0))))

def disk_Disk_Used (z0 : disk_Disk) (Q : Int → Prop) : Prop :=
Jn1 (fun (x3_5 : Int) => Q x3_5) fun J5_ => Lp2 (fun (x3_8 : Int) (x12_8 : Int) next8_ => ((x12_8 < 3) → ((0 ≤ x12_8 ∧ x12_8 < 3) ∧ (x12_8 = 0 → Ck (x3_8 + (z0.files_.e0_.length : Int)) ∧ Ck (x12_8 + 1) ∧ next8_ (x3_8 + (z0.files_.e0_.length : Int)) (x12_8 + 1)) ∧ (x12_8 = 1 → Ck (x3_8 + (z0.files_.e1_.length : Int)) ∧ Ck (x12_8 + 1) ∧ next8_ (x3_8 + (z0.files_.e1_.length : Int)) (x12_8 + 1)) ∧ (x12_8 = 2 → Ck (x3_8 + (z0.files_.e2_.length : Int)) ∧ Ck (x12_8 + 1) ∧ next8_ (x3_8 + (z0.files_.e2_.length : Int)) (x12_8 + 1)))) ∧ (¬ (x12_8 < 3) → (J5_ x3_8))) 0 0

def disk_Disk_Append (z0 : disk_Disk) (x1 : Int) (x2 : List UInt8) (Q : Int → disk_Disk → Prop) : Prop :=
disk_Disk_able z0 x1 fun (r3_0 : Int) => ((r3_0 ≠ 0) → (Q r3_0 z0)) ∧ (¬ (r3_0 ≠ 0) → (disk_Disk_Used z0 fun (r12_0 : Int) => Ck (z0.room_ - r12_0) ∧ (((x2.length : Int) > (z0.room_ - r12_0)) → (Q 7 z0)) ∧ (¬ ((x2.length : Int) > (z0.room_ - r12_0)) → ((0 ≤ x1 ∧ x1 < 3) ∧ (x1 = 0 → disk_Disk_burn z0 (x2.length : Int) fun (r21_0 : Int) (y21_o0 : disk_Disk) => 0 ≤ (z0.files_.e0_.length : Int) ∧ 0 ≤ r21_0 ∧ r21_0 ≤ (x2.length : Int) ∧ Rm 1 ((cut z0.files_.e0_ 0 (z0.files_.e0_.length : Int)).length + (cut x2 0 r21_0).length) ∧ disk_Disk_done (disk_Disk.mk (arr3_List_UInt8.mk ((cut z0.files_.e0_ 0 (z0.files_.e0_.length : Int)) ++ (cut x2 0 r21_0)) y21_o0.files_.e1_ y21_o0.files_.e2_) y21_o0.room_ y21_o0.off_ y21_o0.armed_ y21_o0.left_) fun (r34_0 : Int) => Q r34_0 (disk_Disk.mk (arr3_List_UInt8.mk ((cut z0.files_.e0_ 0 (z0.files_.e0_.length : Int)) ++ (cut x2 0 r21_0)) y21_o0.files_.e1_ y21_o0.files_.e2_) y21_o0.room_ y21_o0.off_ y21_o0.armed_ y21_o0.left_)) ∧ (x1 = 1 → disk_Disk_burn z0 (x2.length : Int) fun (r37_0 : Int) (y37_o0 : disk_Disk) => 0 ≤ (z0.files_.e1_.length : Int) ∧ 0 ≤ r37_0 ∧ r37_0 ≤ (x2.length : Int) ∧ Rm 1 ((cut z0.files_.e1_ 0 (z0.files_.e1_.length : Int)).length + (cut x2 0 r37_0).length) ∧ disk_Disk_done (disk_Disk.mk (arr3_List_UInt8.mk y37_o0.files_.e0_ ((cut z0.files_.e1_ 0 (z0.files_.e1_.length : Int)) ++ (cut x2 0 r37_0)) y37_o0.files_.e2_) y37_o0.room_ y37_o0.off_ y37_o0.armed_ y37_o0.left_) fun (r50_0 : Int) => Q r50_0 (disk_Disk.mk (arr3_List_UInt8.mk y37_o0.files_.e0_ ((cut z0.files_.e1_ 0 (z0.files_.e1_.length : Int)) ++ (cut x2 0 r37_0)) y37_o0.files_.e2_) y37_o0.room_ y37_o0.off_ y37_o0.armed_ y37_o0.left_)) ∧ (x1 = 2 → disk_Disk_burn z0 (x2.length : Int) fun (r53_0 : Int) (y53_o0 : disk_Disk) => 0 ≤ (z0.files_.e2_.length : Int) ∧ 0 ≤ r53_0 ∧ r53_0 ≤ (x2.length : Int) ∧ Rm 1 ((cut z0.files_.e2_ 0 (z0.files_.e2_.length : Int)).length + (cut x2 0 r53_0).length) ∧ disk_Disk_done (disk_Disk.mk (arr3_List_UInt8.mk y53_o0.files_.e0_ y53_o0.files_.e1_ ((cut z0.files_.e2_ 0 (z0.files_.e2_.length : Int)) ++ (cut x2 0 r53_0))) y53_o0.room_ y53_o0.off_ y53_o0.armed_ y53_o0.left_) fun (r66_0 : Int) => Q r66_0 (disk_Disk.mk (arr3_List_UInt8.mk y53_o0.files_.e0_ y53_o0.files_.e1_ ((cut z0.files_.e2_ 0 (z0.files_.e2_.length : Int)) ++ (cut x2 0 r53_0))) y53_o0.room_ y53_o0.off_ y53_o0.armed_ y53_o0.left_))))))

end Go.Lx

namespace Go.Lx
set_option linter.unusedVariables false
def journal_Journal_Check (z0 : journal_Journal) (z1 : List (Int × Int)) (z2 : disk_Disk) (Q : Int → journal_Journal → disk_Disk → Prop) : Prop :=
journal_Journal_dead z0 z1 z2 fun (r4_0 : Bool) => ((r4_0 = true) → (Q 6 z0 z2)) ∧ ((r4_0 = false) → (((z0.gen_ ≥ 1099511627776) → (Q 5 z0 z2)) ∧ (¬ (z0.gen_ ≥ 1099511627776) → (Ck (z0.gen_ + 1) ∧ Jn1 (fun (x4_14 : Int) => journal_head (z0.gen_ + 1) (z0.book_.l_.length : Int) fun (r18_0 : List UInt8) => Jn1 (fun (x5_20 : List UInt8) => disk_Disk_Wipe z2 x4_14 fun (r39_0 : Int) (y39_o0 : disk_Disk) => ((r39_0 ≠ 0) → (Q r39_0 z0 y39_o0)) ∧ (¬ (r39_0 ≠ 0) → (disk_Disk_Append y39_o0 x4_14 x5_20 fun (r47_0 : Int) (y47_o0 : disk_Disk) => ((r47_0 ≠ 0) → (Q r47_0 z0 y47_o0)) ∧ (¬ (r47_0 ≠ 0) → (disk_Disk_Wipe y47_o0 0 fun (r60_0 : Int) (y60_o0 : disk_Disk) => ((r60_0 ≠ 0) → (Q r60_0 (journal_Journal.mk z0.book_ (z0.gen_ + 1) x4_14) y60_o0)) ∧ (¬ (r60_0 ≠ 0) → (journal_head (z0.gen_ + 1) (z0.book_.l_.length : Int) fun (r67_0 : List UInt8) => disk_Disk_Append y60_o0 0 r67_0 fun (r69_0 : Int) (y69_o0 : disk_Disk) => Q r69_0 (journal_Journal.mk z0.book_ (z0.gen_ + 1) x4_14) y69_o0))))))) fun J20_ => Lp2 (fun (x5_22 : List UInt8) (x44_22 : Int) next22_ => ((x44_22 < (z0.book_.l_.length : Int)) → (∃ x28_, At z0.book_.l_ x44_22 x28_ ∧ journal_tell x44_22 x28_ fun (r31_0 : List UInt8) => Rm 1 (x5_22.length + r31_0.length) ∧ Ck (x44_22 + 1) ∧ next22_ (x5_22 ++ r31_0) (x44_22 + 1))) ∧ (¬ (x44_22 < (z0.book_.l_.length : Int)) → (J20_ x5_22))) r18_0 0) fun J14_ => ((z0.place_ = 1) → (J14_ 2)) ∧ (¬ (z0.place_ = 1) → (J14_ 1))))))

def journal_Open (z0 : disk_Disk) (Q0 : Int → disk_Disk → Prop) (Q1 : Int → disk_Disk → journal_Journal → (List (Int × Int)) → Prop) : Prop :=
Jn2 (fun (yb4__10 : journal_Journal) (yb9__10 : List journal_record) => Jn2 (fun (yb4__40 : journal_Journal) (ym3__40 : List (Int × Int)) => disk_Disk_Read z0 0 fun (r56_0 : List UInt8) (r56_1 : Int) => ((r56_1 ≠ 0) → (Q0 r56_1 z0)) ∧ (¬ (r56_1 ≠ 0) → (journal_opened_v1 r56_0 yb9__10 () yb4__40 ym3__40 z0 fun (r65_0 : Int) (r65_1 : Int) (r65_2 : List journal_record) (r65_3 : Bool) (r65_4 : Bool) => Jn2 (fun (yb4__68 : journal_Journal) (ym3__68 : List (Int × Int)) => Jn2 (fun (yd0_85 : disk_Disk) (yb4__85 : journal_Journal) => Q1 0 yd0_85 yb4__85 ym3__68) fun J85_ => Jn1 (fun (x126_86 : Bool) => ((x126_86 = true) → (journal_Journal_Check yb4__68 ym3__68 z0 fun (r90_0 : Int) (y90_o0 : journal_Journal) (y90_o2 : disk_Disk) => ((r90_0 ≠ 0) → (Q0 r90_0 y90_o2)) ∧ (¬ (r90_0 ≠ 0) → (J85_ y90_o2 y90_o0)))) ∧ ((x126_86 = false) → (J85_ z0 yb4__68))) fun J86_ => (((!r65_4) = true) → (J86_ true)) ∧ (((!r65_4) = false) → (J86_ (!r65_3)))) fun J68_ => ((r65_4 = true) → (Lp3 (fun (x111_72 : Int) (yb4__72 : journal_Journal) (ym3__72 : List (Int × Int)) next72_ => ((x111_72 < (r65_2.length : Int)) → (∃ x78_, At r65_2 x111_72 x78_ ∧ journal_book_add yb4__72 ym3__72 z0 x78_ fun (y82_o0 : journal_Journal) (y82_o1 : List (Int × Int)) => Ck (x111_72 + 1) ∧ next72_ (x111_72 + 1) y82_o0 y82_o1)) ∧ (¬ (x111_72 < (r65_2.length : Int)) → (J68_ yb4__72 ym3__72))) 0 yb4__40 ym3__40)) ∧ ((r65_4 = false) → (J68_ yb4__40 ym3__40))))) fun J40_ => Lp3 (fun (x81_42 : Int) (yb4__42 : journal_Journal) (ym3__42 : List (Int × Int)) next42_ => ((x81_42 < (yb9__10.length : Int)) → (∃ x48_, At yb9__10 x81_42 x48_ ∧ journal_book_add yb4__42 ym3__42 z0 x48_ fun (y52_o0 : journal_Journal) (y52_o1 : List (Int × Int)) => Ck (x81_42 + 1) ∧ next42_ (x81_42 + 1) y52_o0 y52_o1)) ∧ (¬ (x81_42 < (yb9__10.length : Int)) → (J40_ yb4__42 ym3__42))) 0 yb4__10 ([] : List (Int × Int))) fun J10_ => Lp3 (fun (x6_12 : Int) (yb4__12 : journal_Journal) (yb9__12 : List journal_record) next12_ => ((x6_12 < 3) → (Jn2 (fun (yb4__16 : journal_Journal) (yb9__16 : List journal_record) => Ck (x6_12 + 1) ∧ next12_ (x6_12 + 1) yb4__16 yb9__16) fun J16_ => disk_Disk_Read z0 x6_12 fun (r18_0 : List UInt8) (r18_1 : Int) => ((r18_1 ≠ 0) → (Q0 r18_1 z0)) ∧ (¬ (r18_1 ≠ 0) → (journal_opened r18_0 fun (r27_0 : Int) (r27_1 : Int) (r27_2 : List journal_record) (r27_3 : Bool) (r27_4 : Bool) => Jn1 (fun (x69_30 : Bool) => ((x69_30 = true) → (J16_ (journal_Journal.mk yb4__12.book_ r27_0 x6_12) r27_2)) ∧ ((x69_30 = false) → (J16_ yb4__12 yb9__12))) fun J30_ => ((r27_4 = true) → (((r27_3 = true) → (((r27_1 = (r27_2.length : Int)) → (J30_ (decide (r27_0 > yb4__12.gen_)))) ∧ (¬ (r27_1 = (r27_2.length : Int)) → (J30_ false)))) ∧ ((r27_3 = false) → (J30_ false)))) ∧ ((r27_4 = false) → (J30_ false)))))) ∧ (¬ (x6_12 < 3) → (J10_ yb4__12 yb9__12))) 1 (journal_Journal.mk (journal_book.mk []) 0 0) []

end Go.Lx

namespace Go.Lx
set_option linter.unusedVariables false
def sealskinlaw06_begun  (Q : Bool → disk_Disk → journal_Journal → (List (Int × Int)) → Prop) : Prop :=
disk_New 8388608 (fun (r3a_1 : Int) => False) (fun (r3b_1 : Int) (y3b_o0 : disk_Disk) => journal_Open y3b_o0 (fun (r6a_1 : Int) (y6a_o0 : disk_Disk) => False) (fun (r6b_1 : Int) (y6b_o0 : disk_Disk) (y6b_o1 : journal_Journal) (y6b_o2 : List (Int × Int)) => Q (decide (r6b_1 = 0)) y6b_o0 y6b_o1 y6b_o2))

def slices_Clone_sl_byte_byte (x0 : List UInt8) (Q : (List UInt8) → Prop) : Prop :=
∀ (b4_ : Bool), (b4_ = true → x0 = []) → ((b4_ = true) → (Q [])) ∧ ((b4_ = false) → (Rm 1 (([] : List UInt8).length + x0.length) ∧ Q (([] : List UInt8) ++ x0)))

def journal_Journal_Put (z0 : journal_Journal) (z1 : List (Int × Int)) (z2 : disk_Disk) (x1 : Int) (x2 : List UInt8) (Q : Int → journal_Journal → (List (Int × Int)) → disk_Disk → Prop) : Prop :=
journal_Journal_dead z0 z1 z2 fun (r4_0 : Bool) => ((r4_0 = true) → (Q 6 z0 z1 z2)) ∧ ((r4_0 = false) → (Jn1 (fun (x12_8 : Bool) => ((x12_8 = true) → (Q 10 z0 z1 z2)) ∧ ((x12_8 = false) → ((((x2.length : Int) > 16320) → (Q 4 z0 z1 z2)) ∧ (¬ ((x2.length : Int) > 16320) → (slices_Clone_sl_byte_byte x2 fun (r17_0 : List UInt8) => journal_tell (z0.book_.l_.length : Int) (journal_record.mk x1 r17_0) fun (r25_0 : List UInt8) => disk_Disk_Append z2 0 r25_0 fun (r27_0 : Int) (y27_o0 : disk_Disk) => ((r27_0 ≠ 0) → (Q r27_0 z0 z1 y27_o0)) ∧ (¬ (r27_0 ≠ 0) → (journal_book_add z0 z1 y27_o0 (journal_record.mk x1 r17_0) fun (y35_o0 : journal_Journal) (y35_o1 : List (Int × Int)) => Q 0 y35_o0 y35_o1 y27_o0))))))) fun J8_ => ((x1 < 0) → (J8_ true)) ∧ (¬ (x1 < 0) → (J8_ (decide (x1 ≥ 32))))))

def disk_Disk_Arm (z0 : disk_Disk) (x1 : Int) (Q : Int → disk_Disk → Prop) : Prop :=
disk_Disk_able z0 0 fun (r3_0 : Int) => ((r3_0 ≠ 0) → (Q r3_0 z0)) ∧ (¬ (r3_0 ≠ 0) → (((x1 < 1) → (Q 1 z0)) ∧ (¬ (x1 < 1) → (Q 0 (disk_Disk.mk z0.files_ z0.room_ z0.off_ true x1)))))

def disk_Disk_Start (z0 : disk_Disk) (Q : Int → disk_Disk → Prop) : Prop :=
Jn1 (fun (x11_3 : Bool) => ((x11_3 = true) → (Q 6 z0)) ∧ ((x11_3 = false) → (Q 0 (disk_Disk.mk z0.files_ z0.room_ false z0.armed_ z0.left_)))) fun J3_ => J3_ (decide (z0.room_ = 0))

def journal_Journal_At (z0 : journal_Journal) (z1 : List (Int × Int)) (z2 : disk_Disk) (x1 : Int) (Q : Int → (List UInt8) → Bool → Prop) : Prop :=
Jn1 (fun (x22_3 : Bool) => ((x22_3 = true) → (Q 0 [] false)) ∧ ((x22_3 = false) → (∃ x11_, At z0.book_.l_ x1 x11_ ∧ ∃ x12_, At z0.book_.l_ x1 x12_ ∧ slices_Clone_sl_byte_byte x12_.data_ fun (r13_0 : List UInt8) => Q x11_.label_ r13_0 true))) fun J3_ => journal_Journal_dead z0 z1 z2 fun (r4_0 : Bool) => ((r4_0 = true) → (J3_ true)) ∧ ((r4_0 = false) → (((x1 < 0) → (J3_ true)) ∧ (¬ (x1 < 0) → (J3_ (decide (x1 ≥ (z0.book_.l_.length : Int)))))))

def journal_Journal_Len (z0 : journal_Journal) (z1 : List (Int × Int)) (z2 : disk_Disk) (Q : Int → Prop) : Prop :=
journal_Journal_dead z0 z1 z2 fun (r4_0 : Bool) => ((r4_0 = true) → (Q 0)) ∧ ((r4_0 = false) → (Q (z0.book_.l_.length : Int)))

def journal_Journal_Bytes (z0 : journal_Journal) (z1 : List (Int × Int)) (z2 : disk_Disk) (x1 : Int) (Q : Int → Prop) : Prop :=
journal_Journal_dead z0 z1 z2 fun (r4_0 : Bool) => ((r4_0 = true) → (Q 0)) ∧ ((r4_0 = false) → (Q ((mget z1 x1).getD 0)))

def sealskinlaw06_awake  (Q : Bool → Prop) : Prop :=
sealskinlaw06_begun fun (r3_2 : Bool) (y3_o0 : disk_Disk) (y3_o1 : journal_Journal) (y3_o2 : List (Int × Int)) => Jn2 (fun (x41_6 : Bool) (yo0_3_6 : disk_Disk) => ((x41_6 = true) → (Q false)) ∧ ((x41_6 = false) → (disk_Disk_Start yo0_3_6 fun (r24_0 : Int) (y24_o0 : disk_Disk) => journal_Open y24_o0 (fun (r26a_1 : Int) (y26a_o0 : disk_Disk) => False) (fun (r26b_1 : Int) (y26b_o0 : disk_Disk) (y26b_o1 : journal_Journal) (y26b_o2 : List (Int × Int)) => journal_Journal_At y26b_o1 y26b_o2 y26b_o0 1 fun (r29_0 : Int) (r29_1 : List UInt8) (r29_2 : Bool) => ((r26b_1 = 0) → (journal_Journal_Len y26b_o1 y26b_o2 y26b_o0 fun (r34_0 : Int) => ((r34_0 = 2) → (journal_Journal_Bytes y26b_o1 y26b_o2 y26b_o0 3 fun (r36_0 : Int) => ((r36_0 = 2) → (((r29_0 = 3) → ((((Str.mk r29_1).b = (Str.mk [98, 99]).b) → (((r29_2 = true) → (journal_Journal_Put y26b_o1 y26b_o2 y26b_o0 32 [] fun (r41_0 : Int) (y41_o0 : journal_Journal) (y41_o1 : List (Int × Int)) (y41_o2 : disk_Disk) => Q (decide (r41_0 = 10)))) ∧ ((r29_2 = false) → (Q false)))) ∧ (¬ ((Str.mk r29_1).b = (Str.mk [98, 99]).b) → (Q false)))) ∧ (¬ (r29_0 = 3) → (Q false)))) ∧ (¬ (r36_0 = 2) → (Q false)))) ∧ (¬ (r34_0 = 2) → (Q false)))) ∧ (¬ (r26b_1 = 0) → (Q false)))))) fun J6_ => (((!r3_2) = true) → (J6_ true y3_o0)) ∧ (((!r3_2) = false) → (journal_Journal_Put y3_o1 y3_o2 y3_o0 0 ([(97 : UInt8)] : List UInt8) fun (r10_0 : Int) (y10_o0 : journal_Journal) (y10_o1 : List (Int × Int)) (y10_o2 : disk_Disk) => ((r10_0 ≠ 0) → (J6_ true y10_o2)) ∧ (¬ (r10_0 ≠ 0) → (journal_Journal_Put y10_o0 y10_o1 y10_o2 3 ([(98 : UInt8), (99 : UInt8)] : List UInt8) fun (r14_0 : Int) (y14_o0 : journal_Journal) (y14_o1 : List (Int × Int)) (y14_o2 : disk_Disk) => ((r14_0 ≠ 0) → (J6_ true y14_o2)) ∧ (¬ (r14_0 ≠ 0) → (disk_Disk_Arm y14_o2 5 fun (r16_0 : Int) (y16_o0 : disk_Disk) => ((r16_0 ≠ 0) → (J6_ true y16_o0)) ∧ (¬ (r16_0 ≠ 0) → (journal_Journal_Put y14_o0 y14_o1 y16_o0 0 ([(100 : UInt8)] : List UInt8) fun (r20_0 : Int) (y20_o0 : journal_Journal) (y20_o1 : List (Int × Int)) (y20_o2 : disk_Disk) => J6_ (decide (r20_0 ≠ 50)) y20_o2))))))))

end Go.Lx

namespace Go.Lx
set_option linter.unusedVariables false
def journal_Journal_dead_v1  (Q : Bool → Prop) : Prop :=
Q true

def journal_Journal_Len_v1  (Q : Int → Prop) : Prop :=
journal_Journal_dead_v1 fun (r4_0 : Bool) => ((r4_0 = true) → (Q 0)) ∧ ((r4_0 = false) → (False))

def journal_Journal_At_v1 (x1 : Int) (Q : Int → (List UInt8) → Bool → Prop) : Prop :=
Jn1 (fun (x22_3 : Bool) => ((x22_3 = true) → (Q 0 [] false)) ∧ ((x22_3 = false) → (False))) fun J3_ => journal_Journal_dead_v1 fun (r4_0 : Bool) => ((r4_0 = true) → (J3_ true)) ∧ ((r4_0 = false) → (((x1 < 0) → (J3_ true)) ∧ (¬ (x1 < 0) → (False))))

def journal_Journal_Put_v1 (x1 : Int) (x2 : List UInt8) (Q : Int → Prop) : Prop :=
journal_Journal_dead_v1 fun (r4_0 : Bool) => ((r4_0 = true) → (Q 6)) ∧ ((r4_0 = false) → (Jn1 (fun (x12_8 : Bool) => ((x12_8 = true) → (Q 10)) ∧ ((x12_8 = false) → ((((x2.length : Int) > 16320) → (Q 4)) ∧ (¬ ((x2.length : Int) > 16320) → (slices_Clone_sl_byte_byte x2 fun (r17_0 : List UInt8) => False))))) fun J8_ => ((x1 < 0) → (J8_ true)) ∧ (¬ (x1 < 0) → (J8_ (decide (x1 ≥ 32))))))

end Go.Lx

namespace Go.Lx
set_option linter.unusedVariables false
def journal_Journal_Check_v1  (Q : Int → Prop) : Prop :=
journal_Journal_dead_v1 fun (r4_0 : Bool) => ((r4_0 = true) → (Q 6)) ∧ ((r4_0 = false) → (False))

def journal_Journal_Bytes_v1 (x1 : Int) (Q : Int → Prop) : Prop :=
journal_Journal_dead_v1 fun (r4_0 : Bool) => ((r4_0 = true) → (Q 0)) ∧ ((r4_0 = false) → (False))

def journal_Journal_dead_v2 (z0 : journal_Journal) (Q : Bool → Prop) : Prop :=
Q true

def journal_Journal_At_v2 (z0 : journal_Journal) (x1 : Int) (Q : Int → (List UInt8) → Bool → Prop) : Prop :=
Jn1 (fun (x22_3 : Bool) => ((x22_3 = true) → (Q 0 [] false)) ∧ ((x22_3 = false) → (∃ x11_, At z0.book_.l_ x1 x11_ ∧ ∃ x12_, At z0.book_.l_ x1 x12_ ∧ slices_Clone_sl_byte_byte x12_.data_ fun (r13_0 : List UInt8) => Q x11_.label_ r13_0 true))) fun J3_ => journal_Journal_dead_v2 z0 fun (r4_0 : Bool) => ((r4_0 = true) → (J3_ true)) ∧ ((r4_0 = false) → (((x1 < 0) → (J3_ true)) ∧ (¬ (x1 < 0) → (J3_ (decide (x1 ≥ (z0.book_.l_.length : Int)))))))

def disk_Disk_able_v1 (x1 : Int) (Q : Int → Prop) : Prop :=
Jn1 (fun (x5_3 : Bool) => ((x5_3 = true) → (Q 6)) ∧ ((x5_3 = false) → (False))) fun J3_ => J3_ true

def disk_Disk_Append_v1 (x1 : Int) (x2 : List UInt8) (Q : Int → Prop) : Prop :=
disk_Disk_able_v1 x1 fun (r3_0 : Int) => ((r3_0 ≠ 0) → (Q r3_0)) ∧ (¬ (r3_0 ≠ 0) → (False))

def journal_book_add_v1 (z0 : journal_Journal) (x1 : journal_record)  : Prop :=
0 ≤ (z0.book_.l_.length : Int) ∧ Rm 32 ((cut z0.book_.l_ 0 (z0.book_.l_.length : Int)).length + ([x1] : List journal_record).length) ∧ False

end Go.Lx

namespace Go.Lx
set_option linter.unusedVariables false
def journal_Journal_Put_v2 (z0 : journal_Journal) (x1 : Int) (x2 : List UInt8) (Q : Int → Prop) : Prop :=
journal_Journal_dead_v2 z0 fun (r4_0 : Bool) => ((r4_0 = true) → (Q 6)) ∧ ((r4_0 = false) → (Jn1 (fun (x12_8 : Bool) => ((x12_8 = true) → (Q 10)) ∧ ((x12_8 = false) → ((((x2.length : Int) > 16320) → (Q 4)) ∧ (¬ ((x2.length : Int) > 16320) → (slices_Clone_sl_byte_byte x2 fun (r17_0 : List UInt8) => journal_tell (z0.book_.l_.length : Int) (journal_record.mk x1 r17_0) fun (r25_0 : List UInt8) => disk_Disk_Append_v1 0 r25_0 fun (r27_0 : Int) => ((r27_0 ≠ 0) → (Q r27_0)) ∧ (¬ (r27_0 ≠ 0) → (journal_book_add_v1 z0 (journal_record.mk x1 r17_0)))))))) fun J8_ => ((x1 < 0) → (J8_ true)) ∧ (¬ (x1 < 0) → (J8_ (decide (x1 ≥ 32))))))

def disk_Disk_burn_v1 (x1 : Int)  : Prop :=
False

def disk_Disk_Wipe_v1 (x1 : Int) (Q : Int → Prop) : Prop :=
disk_Disk_able_v1 x1 fun (r4_0 : Int) => ((r4_0 ≠ 0) → (Q r4_0)) ∧ (¬ (r4_0 ≠ 0) → (disk_Disk_burn_v1 1))

def journal_Journal_Check_v2 (z0 : journal_Journal) (Q : Int → journal_Journal → Prop) : Prop :=
journal_Journal_dead_v2 z0 fun (r4_0 : Bool) => ((r4_0 = true) → (Q 6 z0)) ∧ ((r4_0 = false) → (((z0.gen_ ≥ 1099511627776) → (Q 5 z0)) ∧ (¬ (z0.gen_ ≥ 1099511627776) → (Ck (z0.gen_ + 1) ∧ Jn1 (fun (x4_14 : Int) => journal_head (z0.gen_ + 1) (z0.book_.l_.length : Int) fun (r18_0 : List UInt8) => Jn1 (fun (x5_20 : List UInt8) => disk_Disk_Wipe_v1 x4_14 fun (r39_0 : Int) => ((r39_0 ≠ 0) → (Q r39_0 z0)) ∧ (¬ (r39_0 ≠ 0) → (disk_Disk_Append_v1 x4_14 x5_20 fun (r47_0 : Int) => ((r47_0 ≠ 0) → (Q r47_0 z0)) ∧ (¬ (r47_0 ≠ 0) → (disk_Disk_Wipe_v1 0 fun (r59_0 : Int) => ((r59_0 ≠ 0) → (Q r59_0 (journal_Journal.mk z0.book_ (z0.gen_ + 1) x4_14))) ∧ (¬ (r59_0 ≠ 0) → (journal_head (z0.gen_ + 1) (z0.book_.l_.length : Int) fun (r66_0 : List UInt8) => disk_Disk_Append_v1 0 r66_0 fun (r68_0 : Int) => Q r68_0 (journal_Journal.mk z0.book_ (z0.gen_ + 1) x4_14)))))))) fun J20_ => Lp2 (fun (x5_22 : List UInt8) (x44_22 : Int) next22_ => ((x44_22 < (z0.book_.l_.length : Int)) → (∃ x28_, At z0.book_.l_ x44_22 x28_ ∧ journal_tell x44_22 x28_ fun (r31_0 : List UInt8) => Rm 1 (x5_22.length + r31_0.length) ∧ Ck (x44_22 + 1) ∧ next22_ (x5_22 ++ r31_0) (x44_22 + 1))) ∧ (¬ (x44_22 < (z0.book_.l_.length : Int)) → (J20_ x5_22))) r18_0 0) fun J14_ => ((z0.place_ = 1) → (J14_ 2)) ∧ (¬ (z0.place_ = 1) → (J14_ 1))))))

def journal_Journal_Len_v2 (z0 : journal_Journal) (Q : Int → Prop) : Prop :=
journal_Journal_dead_v2 z0 fun (r4_0 : Bool) => ((r4_0 = true) → (Q 0)) ∧ ((r4_0 = false) → (Q (z0.book_.l_.length : Int)))

def journal_Journal_Bytes_v2 (z0 : journal_Journal) (x1 : Int) (Q : Int → Prop) : Prop :=
journal_Journal_dead_v2 z0 fun (r4_0 : Bool) => ((r4_0 = true) → (Q 0)) ∧ ((r4_0 = false) → (False))

def disk_Disk_Read_v1 (x1 : Int) (Q : (List UInt8) → Int → Prop) : Prop :=
disk_Disk_able_v1 x1 fun (r4_0 : Int) => ((r4_0 ≠ 0) → (Q [] r4_0)) ∧ (¬ (r4_0 ≠ 0) → (False))

def journal_book_add_v2 (z0 : journal_Journal) (z1 : List (Int × Int)) (x1 : journal_record) (Q : journal_Journal → (List (Int × Int)) → Prop) : Prop :=
0 ≤ (z0.book_.l_.length : Int) ∧ Rm 32 ((cut z0.book_.l_ 0 (z0.book_.l_.length : Int)).length + ([x1] : List journal_record).length) ∧ Ck (((mget z1 x1.label_).getD 0) + (x1.data_.length : Int)) ∧ Q (journal_Journal.mk (journal_book.mk ((cut z0.book_.l_ 0 (z0.book_.l_.length : Int)) ++ ([x1] : List journal_record))) z0.gen_ z0.place_) (mput z1 x1.label_ (((mget z1 x1.label_).getD 0) + (x1.data_.length : Int)))

def journal_Open_2_v1 (x0 : Int) (x1 : Int) (z0 : List journal_record) (z1 : Unit) (z2 : journal_Journal) (z3 : List (Int × Int)) (Q : Int → Bool → Prop) : Prop :=
((x0 = z2.gen_) → (Q (z0.length : Int) (decide (x1 = (z0.length : Int))))) ∧ (¬ (x0 = z2.gen_) → (Q (z0.length : Int) false))

def journal_opened_v2 (x0 : List UInt8) (z0 : List journal_record) (z1 : Unit) (z2 : journal_Journal) (z3 : List (Int × Int)) (Q : Int → Int → (List journal_record) → Bool → Bool → Prop) : Prop :=
octet_All x0 fun (r3_0 : List (List UInt8)) (r3_1 : Int) => (((r3_0.length : Int) = 0) → (Q 0 0 [] false false)) ∧ (¬ ((r3_0.length : Int) = 0) → (∃ x12_, At r3_0 0 x12_ ∧ octet_Read x12_ fun (y13_o0 : octet_Reader) => octet_Reader_Within y13_o0 1 1099511627776 fun (r16_0 : Int) (y16_o0 : octet_Reader) => octet_Reader_Within y16_o0 0 1099511627776 fun (r17_0 : Int) (y17_o0 : octet_Reader) => octet_Reader_End y17_o0 fun (r20_0 : Int) => ((r20_0 ≠ 0) → (Q 0 0 [] false false)) ∧ (¬ (r20_0 ≠ 0) → (journal_Open_2_v1 r16_0 r17_0 z0 () z2 z3 fun (r25_0 : Int) (r25_1 : Bool) => (((!r25_1) = true) → (Q 0 0 [] false false)) ∧ (((!r25_1) = false) → (Jn3 (fun (x4_32 : Int) (x5_32 : Int) (x6_32 : List journal_record) => Q x4_32 x5_32 x6_32 (decide (r3_1 = (x0.length : Int))) true) fun J32_ => 1 ≤ (r3_0.length : Int) ∧ Lp4 (fun (x4_36 : Int) (x5_36 : Int) (x6_36 : List journal_record) (x48_36 : Int) next36_ => ((x48_36 < ((cut r3_0 1 (r3_0.length : Int)).length : Int)) → (∃ x42_, At (cut r3_0 1 (r3_0.length : Int)) x48_36 x42_ ∧ Ck (r25_0 + (x6_36.length : Int)) ∧ journal_read x42_ (r25_0 + (x6_36.length : Int)) fun (r45_0 : journal_record) (r45_1 : Bool) => (((!r45_1) = true) → (Q x4_36 x5_36 x6_36 false true)) ∧ (((!r45_1) = false) → (Rm 32 (x6_36.length + ([r45_0] : List journal_record).length) ∧ Ck (x48_36 + 1) ∧ next36_ x4_36 x5_36 (x6_36 ++ ([r45_0] : List journal_record)) (x48_36 + 1))))) ∧ (¬ (x48_36 < ((cut r3_0 1 (r3_0.length : Int)).length : Int)) → (J32_ x4_36 x5_36 x6_36))) r16_0 r17_0 [] 0))))))

def journal_Journal_dead_v3 (z0 : journal_Journal) (z1 : List (Int × Int)) (Q : Bool → Prop) : Prop :=
Q true

end Go.Lx

namespace Go.Lx
set_option linter.unusedVariables false
def journal_Journal_Check_v3 (z0 : journal_Journal) (z1 : List (Int × Int)) (Q : Int → journal_Journal → Prop) : Prop :=
journal_Journal_dead_v3 z0 z1 fun (r4_0 : Bool) => ((r4_0 = true) → (Q 6 z0)) ∧ ((r4_0 = false) → (((z0.gen_ ≥ 1099511627776) → (Q 5 z0)) ∧ (¬ (z0.gen_ ≥ 1099511627776) → (Ck (z0.gen_ + 1) ∧ Jn1 (fun (x4_14 : Int) => journal_head (z0.gen_ + 1) (z0.book_.l_.length : Int) fun (r18_0 : List UInt8) => Jn1 (fun (x5_20 : List UInt8) => disk_Disk_Wipe_v1 x4_14 fun (r39_0 : Int) => ((r39_0 ≠ 0) → (Q r39_0 z0)) ∧ (¬ (r39_0 ≠ 0) → (disk_Disk_Append_v1 x4_14 x5_20 fun (r47_0 : Int) => ((r47_0 ≠ 0) → (Q r47_0 z0)) ∧ (¬ (r47_0 ≠ 0) → (disk_Disk_Wipe_v1 0 fun (r59_0 : Int) => ((r59_0 ≠ 0) → (Q r59_0 (journal_Journal.mk z0.book_ (z0.gen_ + 1) x4_14))) ∧ (¬ (r59_0 ≠ 0) → (journal_head (z0.gen_ + 1) (z0.book_.l_.length : Int) fun (r66_0 : List UInt8) => disk_Disk_Append_v1 0 r66_0 fun (r68_0 : Int) => Q r68_0 (journal_Journal.mk z0.book_ (z0.gen_ + 1) x4_14)))))))) fun J20_ => Lp2 (fun (x5_22 : List UInt8) (x44_22 : Int) next22_ => ((x44_22 < (z0.book_.l_.length : Int)) → (∃ x28_, At z0.book_.l_ x44_22 x28_ ∧ journal_tell x44_22 x28_ fun (r31_0 : List UInt8) => Rm 1 (x5_22.length + r31_0.length) ∧ Ck (x44_22 + 1) ∧ next22_ (x5_22 ++ r31_0) (x44_22 + 1))) ∧ (¬ (x44_22 < (z0.book_.l_.length : Int)) → (J20_ x5_22))) r18_0 0) fun J14_ => ((z0.place_ = 1) → (J14_ 2)) ∧ (¬ (z0.place_ = 1) → (J14_ 1))))))

def journal_Open_v1  (Q0 : Int → Prop) (Q1 : Int → journal_Journal → (List (Int × Int)) → Prop) : Prop :=
Jn2 (fun (yb4__10 : journal_Journal) (yb9__10 : List journal_record) => Jn2 (fun (yb4__39 : journal_Journal) (ym3__39 : List (Int × Int)) => disk_Disk_Read_v1 0 fun (r55_0 : List UInt8) (r55_1 : Int) => ((r55_1 ≠ 0) → (Q0 r55_1)) ∧ (¬ (r55_1 ≠ 0) → (journal_opened_v2 r55_0 yb9__10 () yb4__39 ym3__39 fun (r63_0 : Int) (r63_1 : Int) (r63_2 : List journal_record) (r63_3 : Bool) (r63_4 : Bool) => Jn2 (fun (yb4__66 : journal_Journal) (ym3__66 : List (Int × Int)) => Jn1 (fun (yb4__83 : journal_Journal) => Q1 0 yb4__83 ym3__66) fun J83_ => Jn1 (fun (x126_84 : Bool) => ((x126_84 = true) → (journal_Journal_Check_v3 yb4__66 ym3__66 fun (r88_0 : Int) (y88_o0 : journal_Journal) => ((r88_0 ≠ 0) → (Q0 r88_0)) ∧ (¬ (r88_0 ≠ 0) → (J83_ y88_o0)))) ∧ ((x126_84 = false) → (J83_ yb4__66))) fun J84_ => (((!r63_4) = true) → (J84_ true)) ∧ (((!r63_4) = false) → (J84_ (!r63_3)))) fun J66_ => ((r63_4 = true) → (Lp3 (fun (x111_70 : Int) (yb4__70 : journal_Journal) (ym3__70 : List (Int × Int)) next70_ => ((x111_70 < (r63_2.length : Int)) → (∃ x76_, At r63_2 x111_70 x76_ ∧ journal_book_add_v2 yb4__70 ym3__70 x76_ fun (y80_o0 : journal_Journal) (y80_o1 : List (Int × Int)) => Ck (x111_70 + 1) ∧ next70_ (x111_70 + 1) y80_o0 y80_o1)) ∧ (¬ (x111_70 < (r63_2.length : Int)) → (J66_ yb4__70 ym3__70))) 0 yb4__39 ym3__39)) ∧ ((r63_4 = false) → (J66_ yb4__39 ym3__39))))) fun J39_ => Lp3 (fun (x81_41 : Int) (yb4__41 : journal_Journal) (ym3__41 : List (Int × Int)) next41_ => ((x81_41 < (yb9__10.length : Int)) → (∃ x47_, At yb9__10 x81_41 x47_ ∧ journal_book_add_v2 yb4__41 ym3__41 x47_ fun (y51_o0 : journal_Journal) (y51_o1 : List (Int × Int)) => Ck (x81_41 + 1) ∧ next41_ (x81_41 + 1) y51_o0 y51_o1)) ∧ (¬ (x81_41 < (yb9__10.length : Int)) → (J39_ yb4__41 ym3__41))) 0 yb4__10 ([] : List (Int × Int))) fun J10_ => Lp3 (fun (x6_12 : Int) (yb4__12 : journal_Journal) (yb9__12 : List journal_record) next12_ => ((x6_12 < 3) → (Jn2 (fun (yb4__16 : journal_Journal) (yb9__16 : List journal_record) => Ck (x6_12 + 1) ∧ next12_ (x6_12 + 1) yb4__16 yb9__16) fun J16_ => disk_Disk_Read_v1 x6_12 fun (r18_0 : List UInt8) (r18_1 : Int) => ((r18_1 ≠ 0) → (Q0 r18_1)) ∧ (¬ (r18_1 ≠ 0) → (journal_opened r18_0 fun (r26_0 : Int) (r26_1 : Int) (r26_2 : List journal_record) (r26_3 : Bool) (r26_4 : Bool) => Jn1 (fun (x69_29 : Bool) => ((x69_29 = true) → (J16_ (journal_Journal.mk yb4__12.book_ r26_0 x6_12) r26_2)) ∧ ((x69_29 = false) → (J16_ yb4__12 yb9__12))) fun J29_ => ((r26_4 = true) → (((r26_3 = true) → (((r26_1 = (r26_2.length : Int)) → (J29_ (decide (r26_0 > yb4__12.gen_)))) ∧ (¬ (r26_1 = (r26_2.length : Int)) → (J29_ false)))) ∧ ((r26_3 = false) → (J29_ false)))) ∧ ((r26_4 = false) → (J29_ false)))))) ∧ (¬ (x6_12 < 3) → (J10_ yb4__12 yb9__12))) 1 (journal_Journal.mk (journal_book.mk []) 0 0) []

end Go.Lx

namespace Go.Lx
set_option linter.unusedVariables false
def sealskinlaw06_JournalNobody (x0 : Int) (x1 : List UInt8) (Q : Bool → Prop) : Prop :=
Jn0 (Jn0 (sealskinlaw06_awake fun (r88_0 : Bool) => Q r88_0) fun J50_ => Lp2 (fun (x61_54 : Int) (yb52__54 : disk_Disk) next54_ => ((x61_54 < 2) → ((0 ≤ x61_54 ∧ x61_54 < 2) ∧ (x61_54 = 0 → journal_Open_v1 (fun (r62a_1 : Int) => Jn3 (fun (x73_64 : Int) (x74_64 : Bool) (x75_64 : Bool) => ((x75_64 = true) → (Q false)) ∧ ((x75_64 = false) → (Ck (x61_54 + 1) ∧ next54_ (x61_54 + 1) yb52__54))) fun J64_ => J64_ r62a_1 (decide (r62a_1 ≠ 6)) (decide (r62a_1 ≠ 6))) (fun (r62b_1 : Int) (y62b_o0 : journal_Journal) (y62b_o1 : List (Int × Int)) => Jn1 (fun (x75_70 : Bool) => ((x75_70 = true) → (Q false)) ∧ ((x75_70 = false) → (Ck (x61_54 + 1) ∧ next54_ (x61_54 + 1) yb52__54))) fun J70_ => J70_ true)) ∧ (x61_54 = 1 → journal_Open yb52__54 (fun (r75a_1 : Int) (y75a_o0 : disk_Disk) => Jn3 (fun (x73_77 : Int) (x74_77 : Bool) (x75_77 : Bool) => ((x75_77 = true) → (Q false)) ∧ ((x75_77 = false) → (Ck (x61_54 + 1) ∧ next54_ (x61_54 + 1) y75a_o0))) fun J77_ => J77_ r75a_1 (decide (r75a_1 ≠ 6)) (decide (r75a_1 ≠ 6))) (fun (r75b_1 : Int) (y75b_o0 : disk_Disk) (y75b_o1 : journal_Journal) (y75b_o2 : List (Int × Int)) => Jn1 (fun (x75_83 : Bool) => ((x75_83 = true) → (Q false)) ∧ ((x75_83 = false) → (Ck (x61_54 + 1) ∧ next54_ (x61_54 + 1) y75b_o0))) fun J83_ => J83_ true)))) ∧ (¬ (x61_54 < 2) → (J50_))) 0 (disk_Disk.mk (arr3_List_UInt8.mk [] [] []) 0 false false 0)) fun J2_ => Lp2 (fun (x18_6 : Int) (yb4__6 : journal_Journal) next6_ => ((x18_6 < 2) → ((0 ≤ x18_6 ∧ x18_6 < 2) ∧ (x18_6 = 0 → journal_Journal_At_v1 x0 fun (r14_0 : Int) (r14_1 : List UInt8) (r14_2 : Bool) => Jn1 (fun (x55_16 : Bool) => ((x55_16 = true) → (Q false)) ∧ ((x55_16 = false) → (Ck (x18_6 + 1) ∧ next6_ (x18_6 + 1) yb4__6))) fun J16_ => journal_Journal_Put_v1 x0 x1 fun (r17_0 : Int) => ((r17_0 ≠ 6) → (J16_ true)) ∧ (¬ (r17_0 ≠ 6) → (journal_Journal_Check_v1 fun (r19_0 : Int) => ((r19_0 ≠ 6) → (J16_ true)) ∧ (¬ (r19_0 ≠ 6) → (journal_Journal_Len_v1 fun (r21_0 : Int) => journal_Journal_Bytes_v1 x0 fun (r22_0 : Int) => Ck (r21_0 + r22_0) ∧ Ck ((r21_0 + r22_0) + r14_0) ∧ Ck (((r21_0 + r22_0) + r14_0) + (r14_1.length : Int)) ∧ (((((r21_0 + r22_0) + r14_0) + (r14_1.length : Int)) ≠ 0) → (J16_ true)) ∧ (¬ ((((r21_0 + r22_0) + r14_0) + (r14_1.length : Int)) ≠ 0) → (J16_ r14_2))))))) ∧ (x18_6 = 1 → journal_Journal_At_v2 yb4__6 x0 fun (r32_0 : Int) (r32_1 : List UInt8) (r32_2 : Bool) => Jn2 (fun (x55_35 : Bool) (yb4__35 : journal_Journal) => ((x55_35 = true) → (Q false)) ∧ ((x55_35 = false) → (Ck (x18_6 + 1) ∧ next6_ (x18_6 + 1) yb4__35))) fun J35_ => journal_Journal_Put_v2 yb4__6 x0 x1 fun (r36_0 : Int) => ((r36_0 ≠ 6) → (J35_ true yb4__6)) ∧ (¬ (r36_0 ≠ 6) → (journal_Journal_Check_v2 yb4__6 fun (r38_0 : Int) (y38_o0 : journal_Journal) => ((r38_0 ≠ 6) → (J35_ true y38_o0)) ∧ (¬ (r38_0 ≠ 6) → (journal_Journal_Len_v2 y38_o0 fun (r40_0 : Int) => journal_Journal_Bytes_v2 y38_o0 x0 fun (r41_0 : Int) => Ck (r40_0 + r41_0) ∧ Ck ((r40_0 + r41_0) + r32_0) ∧ Ck (((r40_0 + r41_0) + r32_0) + (r32_1.length : Int)) ∧ (((((r40_0 + r41_0) + r32_0) + (r32_1.length : Int)) ≠ 0) → (J35_ true y38_o0)) ∧ (¬ ((((r40_0 + r41_0) + r32_0) + (r32_1.length : Int)) ≠ 0) → (J35_ r32_2 y38_o0))))))))) ∧ (¬ (x18_6 < 2) → (J2_))) 0 (journal_Journal.mk (journal_book.mk []) 0 0)

end Go.Lx

