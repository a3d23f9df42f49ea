/- What is shown of the program on the way to the law. -/
import Derived.Test.YtbjmngacjdcddaaDoorZB1
import Derived.Test.YtbjmngacjdcddaaDoorZB9
import Derived.Test.YtbjmngacjdcddaaDoorProg
set_option linter.unusedVariables false
set_option linter.unusedSimpArgs false
set_option maxHeartbeats 4000000
namespace Go.Proofs.YtbjmngacjdcddaaDoor
open Go Go.Sx

namespace TFhe
theorem hm : Tryd.prog.follows .mixedOrders = true := by kernel_rfl
theorem ag119 : aggB Tryd.prog 119 = some false := by kernel_rfl
theorem ag126 : aggB Tryd.prog 126 = some true := by kernel_rfl
theorem ag96 : aggB Tryd.prog 96 = some true := by kernel_rfl
theorem el30 : Elem Tryd.prog 30 5 1 1 := Elem.of (by kernel_rfl)
theorem sz119 : sz Tryd.prog 119 = some 1 := by kernel_rfl
theorem sz126 : sz Tryd.prog 126 = some 8 := by kernel_rfl
theorem sz5 : sz Tryd.prog 5 = some 1 := by kernel_rfl
theorem sz96 : sz Tryd.prog 96 = some 32 := by kernel_rfl
theorem zr5 : zr Tryd.prog 5 = some ([.int .u8 0]) := by kernel_rfl
theorem zr96 : zr Tryd.prog 96 = some (List.replicate 32 (.int .u8 0)) := by kernel_rfl
end TFhe
open TFhe
end Go.Proofs.YtbjmngacjdcddaaDoor

