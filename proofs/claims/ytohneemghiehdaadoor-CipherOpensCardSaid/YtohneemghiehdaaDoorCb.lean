/- The seat of layer 8: what its globals say. -/
import Derived.Test.YtohneemghiehdaaDoorLx3
import Derived.Test.YtohneemghiehdaaDoorLx5
import Derived.Test.YtohneemghiehdaaDoorBm
import Derived.Test.YtohneemghiehdaaDoorProg
set_option linter.unusedVariables false
set_option linter.unusedSimpArgs false
namespace Go.Proofs.YtohneemghiehdaaDoor
open Go Go.Sx Go.Lx
def GL (G : Gh) : Prop := ∀ w, St G w → Rd w (some ⟨0, 0, none⟩) ordC
theorem GL.up {G G' : Gh} (h : GL G) (hl : Le G G') : GL G' := fun w hs => h w fun a v k => hs a v (hl a v k)
end Go.Proofs.YtohneemghiehdaaDoor
