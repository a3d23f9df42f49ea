/- PLAIN: lists of lists that are joined. -/
import Derived.Test.YtohneemghiehdaaDoorBt
set_option linter.unusedVariables false
set_option linter.unusedSimpArgs false
namespace Go.Sx
open Go
theorem begin_rest (key : List UInt8) (h : key.length ≤ 32) : (Bl.begin_ key).rest.length ≤ 64 := by
  unfold Bl.begin_
  dsimp only
  split
  · simp
  · rw [padded_len (by omega)]; omega
theorem of_flat (L : List (List UInt8)) : Bl.of L = Bl.of [L.flatten] := by
  unfold Bl.of
  rw [add_flat' L _ (begin_rest [] (by decide))]
  rfl
theorem keyed_flat (key : List UInt8) (L : List (List UInt8)) : Bl.keyed key L = Bl.keyed key [L.flatten] := by
  unfold Bl.keyed
  split
  · rw [add_flat' L _ (begin_rest _ (by rw [of_len]; decide))]; rfl
  · rw [add_flat' L _ (begin_rest _ (by omega))]; rfl
end Go.Sx
