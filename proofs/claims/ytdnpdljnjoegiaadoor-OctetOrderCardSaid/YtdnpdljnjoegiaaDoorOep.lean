/- The pure text of bytes.Compare. -/
import Derived.Test.YtdnpdljnjoegiaaDoorLx2
import Derived.Lib.Bytealg
set_option linter.unusedVariables false
set_option linter.unusedSimpArgs false
namespace Go.Lx
def bytes_Compare (x0 x1 : List UInt8) (Q : Int → Prop) : Prop := Q (Lib.compareBytes x0 x1)
end Go.Lx
