/- What the walks of this seat show of Rg. -/
import Derived.Test.YtijckogioombdaaRf
import Derived.Test.YtijckogioombdaaProg
set_option linter.unusedVariables false
set_option linter.unusedSimpArgs false
namespace Go.Proofs.Ytijckogioombdaa
open Go Go.Sx
namespace TRg
theorem hm : Try.prog.follows .mixedOrders = true := by kernel_rfl

end TRg

theorem law_plays (r : Int) (LA : Option Addr) (lc : Nat) (L : List Do) (w : World) (_wf : (Lit.int .i64 r).wf = true) (hL : RdDo w LA L) (hm : L.length * 48 ≤ 140737488351232) : Calls Try.prog 7 #[vi r, .slice LA L.length lc] w fun e w2 => e = .returned (.bool true) ∧ Fr [] w w2 := by
  by_cases h : r < 1 ∨ 16777216 < r
  · exact law_plays_bad r LA lc _ w h
  · obtain ⟨n, rfl, h1, h2⟩ := new_good r h
    exact law_plays_ok n h1 h2 LA lc L w hL hm

end Go.Proofs.Ytijckogioombdaa
