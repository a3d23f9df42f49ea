/- PLAIN: a reader that no call made. -/
import Derived.Test.YtdnpdljnjoegiaaDoorLx3
set_option linter.unusedVariables false
set_option linter.unusedSimpArgs false
namespace Go.Sx
open Go
def unR : List Value := [.slice none 0 0, vi 0, vi 0, .bool false]
def NobR (w : World) (p : Option Addr) : Prop := p = none ∨ ∃ d, p = some ⟨d, 0, none⟩ ∧ Blk w d 58 unR
theorem NobR.fr {w w' : World} {p : Option Addr} {M : List Nat} (h : NobR w p) (hf : Fr M w w') (hM : ∀ d, p = some ⟨d, 0, none⟩ → d ∉ M) : NobR w' p := by
  rcases h with rfl | ⟨d, rfl, hB⟩
  · exact .inl rfl
  · exact .inr ⟨d, rfl, hB.fr hf (hM d rfl)⟩
theorem NobR.fr0 {w w' : World} {p : Option Addr} (h : NobR w p) (hf : Fr [] w w') : NobR w' p := h.fr hf (by simp)
theorem nobR_two {w : World} {b d t : Nat} (h : Blk w b t [.pointer none, .pointer (some ⟨d, 0, none⟩)]) (hd : Blk w d 58 unR) {i : Nat} (hi : i < 2) :
    ∃ p, w.cell? ((adr (some ⟨b, 0, none⟩)).add ((i : Int).toNat * 1)) = some (.pointer p) ∧ NobR w p := by
  simp only [adr, Option.getD_some, add_flat, Nat.zero_add, Int.toNat_natCast, Nat.mul_one]
  match i, hi with
  | 0, _ => exact ⟨none, h.at_ rfl, .inl rfl⟩
  | 1, _ => exact ⟨_, h.at_ rfl, .inr ⟨d, rfl, hd⟩⟩
end Go.Sx
