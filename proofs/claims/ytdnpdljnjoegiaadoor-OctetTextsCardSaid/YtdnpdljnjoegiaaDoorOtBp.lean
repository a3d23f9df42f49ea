/- The pure texts of some functions. -/
import Derived.Test.YtdnpdljnjoegiaaDoorOtAp
set_option linter.unusedVariables false
set_option linter.unusedSimpArgs false
namespace Go.Lx
set_option linter.unusedVariables false
structure octet_source where
  b_ : List UInt8
  at_ : Int
  err_ : Int
  made_ : Bool
  deriving DecidableEq, Inhabited
structure octet_Reader where
  source_ : octet_source
  deriving DecidableEq, Inhabited
def octet_Read (x0 : List UInt8) (Q : octet_Reader → Prop) : Prop :=
Rm 1 (([] : List UInt8).length + x0.length) ∧ Q (octet_Reader.mk (octet_source.mk (([] : List UInt8) ++ x0) 0 0 true))

def octet_Reader_dead (x0 : octet_Reader) (Q : Bool → Prop) : Prop :=
Q (!x0.source_.made_)

def octet_source_left (x0 : octet_source) (Q : Int → Prop) : Prop :=
Ck ((x0.b_.length : Int) - x0.at_) ∧ Q ((x0.b_.length : Int) - x0.at_)

def octet_source_take (x0 : octet_source) (x1 : Int) (Q : (List UInt8) → octet_source → Prop) : Prop :=
((x0.err_ ≠ 0) → (Q [] x0)) ∧ (¬ (x0.err_ ≠ 0) → (Ck ((x0.b_.length : Int) - x0.at_) ∧ ((x1 > ((x0.b_.length : Int) - x0.at_)) → (Q [] (octet_source.mk x0.b_ x0.at_ 2 x0.made_))) ∧ (¬ (x1 > ((x0.b_.length : Int) - x0.at_)) → (Ck (x0.at_ + x1) ∧ Ck ((x0.at_ + x1) - x1) ∧ 0 ≤ ((x0.at_ + x1) - x1) ∧ ((x0.at_ + x1) - x1) ≤ (x0.at_ + x1) ∧ (x0.at_ + x1) ≤ (x0.b_.length : Int) ∧ Q (cut x0.b_ ((x0.at_ + x1) - x1) (x0.at_ + x1)) (octet_source.mk x0.b_ (x0.at_ + x1) x0.err_ x0.made_)))))

def octet_Reader_Left (x0 : octet_Reader) (Q : Int → Prop) : Prop :=
octet_source_left x0.source_ fun (r5_0 : Int) => Q r5_0

def octet_Reader_Err (x0 : octet_Reader) (Q : Int → Prop) : Prop :=
octet_Reader_dead x0 fun (r4_0 : Bool) => ((r4_0 = true) → (Q 6)) ∧ ((r4_0 = false) → (Q x0.source_.err_))

def octet_Reader_End (x0 : octet_Reader) (Q : Int → Prop) : Prop :=
octet_Reader_Err x0 fun (r3_0 : Int) => Jn1 (fun (x14_5 : Bool) => ((x14_5 = true) → (Q 3)) ∧ ((x14_5 = false) → (Q r3_0))) fun J5_ => ((r3_0 = 0) → (octet_source_left x0.source_ fun (r7_0 : Int) => J5_ (decide (r7_0 > 0)))) ∧ (¬ (r3_0 = 0) → (J5_ false))

def octet_Reader_Number (x0 : octet_Reader) (Q : Int → octet_Reader → Prop) : Prop :=
octet_Reader_dead x0 fun (r4_0 : Bool) => ((r4_0 = true) → (Q 0 x0)) ∧ ((r4_0 = false) → (octet_source_take x0.source_ 8 fun (r9_0 : List UInt8) (y9_0 : octet_source) => Jn1 (fun (x3_11 : BitVec 64) => (((x3_11.toNat : Int) > 9223372036854775807) → (Ck (y9_0.at_ - 8) ∧ Q 0 (octet_Reader.mk (octet_source.mk y9_0.b_ (y9_0.at_ - 8) 5 y9_0.made_)))) ∧ (¬ ((x3_11.toNat : Int) > 9223372036854775807) → ((x3_11.toNat : Int) ≤ 9223372036854775807 ∧ Q (x3_11.toNat : Int) (octet_Reader.mk y9_0)))) fun J11_ => Lp2 (fun (x3_13 : BitVec 64) (x15_13 : Int) next13_ => ((x15_13 < (r9_0.length : Int)) → (∃ x19_, At r9_0 x15_13 x19_ ∧ Ck (x15_13 + 1) ∧ next13_ ((x3_13 <<< (8 : Nat)) ||| (x19_.toBitVec.setWidth 64)) (x15_13 + 1))) ∧ (¬ (x15_13 < (r9_0.length : Int)) → (J11_ x3_13))) (0#64) 0))

def octet_Reader_Within (x0 : octet_Reader) (x1 : Int) (x2 : Int) (Q : Int → octet_Reader → Prop) : Prop :=
Jn1 (fun (x17_3 : Bool) => ((x17_3 = true) → (Q 0 x0)) ∧ ((x17_3 = false) → (octet_Reader_Number x0 fun (r9_0 : Int) (y9_0 : octet_Reader) => Jn1 (fun (yd0_10 : octet_Reader) => ((yd0_10.source_.err_ ≠ 0) → (Q 0 yd0_10)) ∧ (¬ (yd0_10.source_.err_ ≠ 0) → (Q r9_0 yd0_10))) fun J10_ => Jn1 (fun (x35_11 : Bool) => ((x35_11 = true) → (Ck (y9_0.source_.at_ - 8) ∧ J10_ (octet_Reader.mk (octet_source.mk y9_0.source_.b_ (y9_0.source_.at_ - 8) 5 y9_0.source_.made_)))) ∧ ((x35_11 = false) → (J10_ y9_0))) fun J11_ => ((y9_0.source_.err_ = 0) → (((r9_0 < x1) → (J11_ true)) ∧ (¬ (r9_0 < x1) → (J11_ (decide (r9_0 > x2)))))) ∧ (¬ (y9_0.source_.err_ = 0) → (J11_ false))))) fun J3_ => octet_Reader_dead x0 fun (r4_0 : Bool) => ((r4_0 = true) → (J3_ true)) ∧ ((r4_0 = false) → (J3_ (decide (x0.source_.err_ ≠ 0))))

def octet_Reader_Bytes (x0 : octet_Reader) (x1 : Int) (Q : (List UInt8) → octet_Reader → Prop) : Prop :=
Jn1 (fun (x17_3 : Bool) => ((x17_3 = true) → (Q [] x0)) ∧ ((x17_3 = false) → (octet_Reader_Number x0 fun (r11_0 : Int) (y11_0 : octet_Reader) => Jn1 (fun (yd0_12 : octet_Reader) => octet_source_take yd0_12.source_ r11_0 fun (r18_0 : List UInt8) (y18_0 : octet_source) => ((y18_0.err_ ≠ 0) → (Q [] (octet_Reader.mk (octet_source.mk y18_0.b_ x0.source_.at_ y18_0.err_ y18_0.made_)))) ∧ (¬ (y18_0.err_ ≠ 0) → (Rm 1 (([] : List UInt8).length + r18_0.length) ∧ Q (([] : List UInt8) ++ r18_0) (octet_Reader.mk y18_0)))) fun J12_ => Jn1 (fun (x36_13 : Bool) => ((x36_13 = true) → (J12_ (octet_Reader.mk (octet_source.mk y11_0.source_.b_ y11_0.source_.at_ 4 y11_0.source_.made_)))) ∧ ((x36_13 = false) → (J12_ y11_0))) fun J13_ => ((y11_0.source_.err_ = 0) → (J13_ (decide (r11_0 > (max x1 0))))) ∧ (¬ (y11_0.source_.err_ = 0) → (J13_ false))))) fun J3_ => octet_Reader_dead x0 fun (r4_0 : Bool) => ((r4_0 = true) → (J3_ true)) ∧ ((r4_0 = false) → (J3_ (decide (x0.source_.err_ ≠ 0))))
end Go.Lx
