/- PLAIN: the law OctetCut. -/
import Derived.Test.YtdnpdljnjoegiaaDoorP2o
import Derived.Test.YtdnpdljnjoegiaaDoorOmCutp
set_option linter.unusedVariables false
set_option linter.unusedSimpArgs false
namespace Go.Lx
theorem OctetCut_all (d : List UInt8) (k : Int) (w0 : Wb d) (w1 : -9223372036854775808 ≤ k ∧ k ≤ 9223372036854775807) : sealskinlaw02_OctetCut d k (fun r => r = true) := by
  unfold sealskinlaw02_OctetCut
  refine octet_Seal_of (fun _ => ⟨fun _ => awake_of rfl, fun h => absurd (by decide) h⟩) fun hd => ⟨fun h => absurd rfl h, fun _ => ?_⟩
  have hl := blockOf_len d
  have hm := ofNat_mod (x := k) (n := (blockOf d).length) (by omega) (by omega)
  refine ⟨fun h => by omega, fun _ => ⟨ofNat_ne (by omega) (by omega), by omega, by omega, by omega, ?_⟩⟩
  rw [cut_front]
  refine octet_Open_of (by rw [List.length_take]; omega) ?_
  rw [openR_cut hd (by omega)]
  exact ⟨fun _ => ⟨fun _ => ⟨fun _ => awake_of rfl, fun h => absurd rfl h⟩, fun h => absurd rfl h⟩, fun h => absurd rfl h⟩
end Go.Lx
