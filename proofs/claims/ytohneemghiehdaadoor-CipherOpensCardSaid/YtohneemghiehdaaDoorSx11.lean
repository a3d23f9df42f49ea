/- SX, eleventh part: cuts whose address is plain. -/
import Derived.Test.YtohneemghiehdaaDoorSx10
set_option linter.unusedVariables false
set_option linter.unusedSimpArgs false
namespace Go.Sx
open Go
section
variable {P : Program} {w : World} {E : Env} {dst : Option Nat} {ty : TypeId} {pos : String} {after : Array Edge} {guard : Option (Nat × Bool)} {x : Operand} {t : TypeId}
theorem add_zero_addr (a : Addr) : a.add 0 = a := by unfold Addr.add; exact if_pos rfl
/-- a cut from the front on -/
theorem R_sliceTo {e sz0 len cap h m : Nat} {A : Option Addr} {hi mx : Option Operand} (hu : P.underlying t = some (.slice e)) (hs : sz P e = some sz0) (hx : ev E x = some (.slice A len cap))
    (hh : Bnd E hi h len) (hm : Bnd E mx m cap) (hmh : mx.isSome = true → hi.isSome = true) (h2 : h ≤ m) (h3 : m ≤ cap) :
    Runs P w E ⟨dst, .slice t x none hi mx, ty, pos, after, guard⟩ (.slice A h m) := by
  have := R_slice (w := w) (dst := dst) (ty := ty) (pos := pos) (after := after) (guard := guard) (l := 0) (lo := none) hu hs hx rfl hh hm hmh (Nat.zero_le _) h2 h3
  have e : (if m = 0 then A else A.map (·.add (0 * sz0))) = A := by
    split
    · rfl
    · cases A with
      | none => rfl
      | some a => simp [add_zero_addr]
  rw [e] at this
  simpa using this
/-- a cut behind which there is room -/
theorem R_sliceFrom {e sz0 len cap l h m b o : Nat} {lo hi mx : Option Operand} (hu : P.underlying t = some (.slice e)) (hs : sz P e = some sz0) (hx : ev E x = some (.slice (some ⟨b, o, none⟩) len cap))
    (hl : Bnd E lo l 0) (hh : Bnd E hi h len) (hm : Bnd E mx m cap) (hmh : mx.isSome = true → hi.isSome = true) (h1 : l ≤ h) (h2 : h ≤ m) (h3 : m ≤ cap) (hlt : l < m) :
    Runs P w E ⟨dst, .slice t x lo hi mx, ty, pos, after, guard⟩ (.slice (some ⟨b, o + l * sz0, none⟩) (h - l) (m - l)) := by
  have := R_slice (w := w) (dst := dst) (ty := ty) (pos := pos) (after := after) (guard := guard) hu hs hx hl hh hm hmh h1 h2 h3
  rw [if_neg (by omega)] at this
  simpa [add_flat] using this
end
end Go.Sx
