/- The pure texts of two functions of unicode/utf8. -/
import Derived.Test.YtdnpdljnjoegiaaDoorLx2
import Derived.Lib.ValidU
import Derived.Lib.RuneCount
set_option linter.unusedVariables false
set_option linter.unusedSimpArgs false
namespace Go.Lx
def utf8_ValidString (x0 : Str) (Q : Bool → Prop) : Prop := x0.b.length ≤ 9223372036854775807 ∧ Q (Lib.validD x0.b)
def utf8_RuneCountInString (x0 : Str) (Q : Int → Prop) : Prop := x0.b.length < 9223372036854775807 ∧ Q (Lib.runeCountL x0.b)
end Go.Lx
