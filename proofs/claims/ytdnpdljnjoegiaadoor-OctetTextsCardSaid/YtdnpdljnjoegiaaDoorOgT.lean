/- What the tables of unicode/utf8 say, by places. -/
import Derived.Test.YtdnpdljnjoegiaaDoorOgTp
import Derived.Test.YtdnpdljnjoegiaaDoorOb
import Derived.Test.YtdnpdljnjoegiaaDoorLx5
set_option linter.unusedVariables false
set_option linter.unusedSimpArgs false
namespace Go.Proofs.YtdnpdljnjoegiaaDoor
open Go Go.Sx Go.Lx
theorem GL.first {G : Gh} {w : World} (hg : GL G) (hs : St G w) {i : Int} (h0 : 0 ≤ i) (h1 : i < (256 : Nat)) : w.cell? ⟨0, 0 + i.toNat * 1, none⟩ = some (vb (fstT i)) := by
  have h := (hg w hs).1 i.toNat (by omega)
  rw [Nat.zero_add, Nat.mul_one, h, vb, fstT_nat]
theorem GL.acc {G : Gh} {w : World} (hg : GL G) (hs : St G w) {i : Int} (h0 : 0 ≤ i) (h1 : i < (16 : Nat)) : ∀ (j : Nat) v, ([vb (accLoT i), vb (accHiT i)])[j]? = some v → w.cell? ((⟨1, 0 + i.toNat * 2, none⟩ : Addr).add j) = some v := by
  have h := (hg w hs).2 i.toNat (by omega)
  intro j v hv
  rw [add_flat]
  match j, hv with
  | 0, hv =>
    obtain rfl := Option.some.inj hv
    rw [show 0 + i.toNat * 2 + 0 = 2 * i.toNat by omega, h.1, vb, accLoT_nat]
  | 1, hv =>
    obtain rfl := Option.some.inj hv
    rw [show 0 + i.toNat * 2 + 1 = 2 * i.toNat + 1 by omega, h.2, vb, accHiT_nat]
  | j + 2, hv => simp at hv
end Go.Proofs.YtdnpdljnjoegiaaDoor
