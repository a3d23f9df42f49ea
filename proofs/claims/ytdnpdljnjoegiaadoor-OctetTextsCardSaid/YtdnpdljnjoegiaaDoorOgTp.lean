/- The words for the tables of unicode/utf8. -/
import Derived.Test.YtdnpdljnjoegiaaDoorLx2
import Derived.Lib.DecodeN
set_option linter.unusedVariables false
set_option linter.unusedSimpArgs false
namespace Go.Lx
def fstT (i : Int) : UInt8 := UInt8.ofNat (Lib.firstT i.toNat)
def accLoT (i : Int) : UInt8 := UInt8.ofNat (Lib.accLo i.toNat)
def accHiT (i : Int) : UInt8 := UInt8.ofNat (Lib.accHi i.toNat)
theorem u8_lt (x : UInt8) : (x.toNat : Int) < (256 : Nat) := by have := x.toNat_lt; omega
theorem firstT_lt (n : Nat) : Lib.firstT n < 256 := by unfold Lib.firstT; (repeat' split) <;> omega
theorem accLo_lt (n : Nat) : Lib.accLo n < 256 := by unfold Lib.accLo; (repeat' split) <;> omega
theorem accHi_lt (n : Nat) : Lib.accHi n < 256 := by unfold Lib.accHi; (repeat' split) <;> omega
theorem fstT_nat (i : Int) : (fstT i).toNat = Lib.firstT i.toNat := by simp [fstT]; exact firstT_lt _
theorem accLoT_nat (i : Int) : (accLoT i).toNat = Lib.accLo i.toNat := by simp [accLoT]; exact accLo_lt _
theorem accHiT_nat (i : Int) : (accHiT i).toNat = Lib.accHi i.toNat := by simp [accHiT]; exact accHi_lt _
end Go.Lx
