/- What is shown of the program on the way to the law. -/
import Derived.Test.YtbjmngacjdcddaaDoorZB1
import Derived.Test.YtbjmngacjdcddaaDoorZB5
import Derived.Test.YtbjmngacjdcddaaDoorProg
set_option linter.unusedVariables false
set_option linter.unusedSimpArgs false
set_option maxHeartbeats 4000000
namespace Go.Proofs.YtbjmngacjdcddaaDoor
open Go Go.Sx

namespace TFhd
theorem hm : Tryd.prog.follows .mixedOrders = true := by kernel_rfl
theorem ag119 : aggB Tryd.prog 119 = some false := by kernel_rfl
theorem ag126 : aggB Tryd.prog 126 = some true := by kernel_rfl
theorem ag3 : aggB Tryd.prog 3 = some false := by kernel_rfl
theorem ag5 : aggB Tryd.prog 5 = some false := by kernel_rfl
theorem sz119 : sz Tryd.prog 119 = some 1 := by kernel_rfl
theorem sz126 : sz Tryd.prog 126 = some 8 := by kernel_rfl
theorem sz3 : sz Tryd.prog 3 = some 1 := by kernel_rfl
theorem sz5 : sz Tryd.prog 5 = some 1 := by kernel_rfl
theorem zr120 : zr Tryd.prog 120 = some (List.replicate 16 (.int .u32 0)) := by kernel_rfl
end TFhd
open TFhd
end Go.Proofs.YtbjmngacjdcddaaDoor

