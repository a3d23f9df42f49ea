/- SX, fourteenth part: whole rows, arrays as slices, stores into slices of the call's own. -/
import Derived.Test.YtohneemghiehdaaDoorSx12
set_option linter.unusedVariables false
set_option linter.unusedSimpArgs false
namespace Go.Sx
open Go
section
variable {P : Program} {w : World} {E : Env} {dst : Option Nat} {ty : TypeId} {pos : String} {after : Array Edge} {guard : Option (Nat × Bool)} {x y : Operand} {t t' : TypeId}
/-- a row that is a block -/
theorem R_loadW {b n : Nat} {cs : List Value} (ht : aggB P t = some true) (hs : sz P t = some n) (hx : ev E x = some (.pointer (some ⟨b, 0, none⟩))) (hB : Blk w b t' cs) (hl : cs.length = n) :
    Runs P w E ⟨dst, .load t x, ty, pos, after, guard⟩ (.agg cs.toArray) := by
  have h := R_loadN (dst := dst) (ty := ty) (pos := pos) (after := after) (guard := guard) (x := x) ht hs hx hB (by omega)
  rwa [List.drop_zero, ← hl, List.take_length] at h
theorem HS_loadW {N : Nat} {ops : Array Oper} {ds : List (Option Nat)} {T : Facts} {s : Todo} {K : Post} {i d b n : Nat} {cs : List Value} (ht : aggB P t = some true) (hs : sz P t = some n)
    (hx : ev E x = some (.pointer (some ⟨b, 0, none⟩))) (hB : Blk w b t' cs) (hl : cs.length = n) (hd : Nat.blt d N = true) (hg : wants ds E guard = some true)
    (h : HS P N ops ds ((i, fun w' => Blk w' b t' cs) :: T) s ((d, .agg cs.toArray) :: E) w K) : HS P N ops ds T (.quiet i ⟨some d, .load t x, ty, pos, after, guard⟩ s) E w K :=
  HS_held (fun w' => Blk w' b t' cs) (fun _ h => R_loadW ht hs hx h hl) hB hd hg h
/-- a store into a slice of the call's own -/
theorem R_storeOwn {B e c i n : Nat} {A : Option Addr} {xs : List Value} {v : Value} (hs : sz P t = some 1) (hx : ev E x = some (.pointer (some ((adr A).add ((i : Int).toNat * 1))))) (hy : ev E y = some v) (hQ : Own w B e 1 A n c xs) (hi : i < n) (h1 : v.oneCell' = true) :
    RunsTo P w E ⟨none, .store t x y, ty, pos, after, guard⟩ (fun _ w' => Own w' B e 1 A n c (xs.set i v) ∧ Fr (blkOf A) w w') := by
  rcases hQ.form with ⟨_, rfl, _, _⟩ | ⟨g, cur, rfl, hb, hB, h2, h3, h4, h5⟩
  · omega
  · have hx' : ev E x = some (.pointer (some ⟨g, i, none⟩)) := by
      rw [hx]; simp [adr, add_flat]
    intro a N ha
    obtain ⟨u, w', ⟨hB', hF⟩, hr⟩ := R_store (ty := ty) (pos := pos) (after := after) (guard := guard) hs hx' hy hB (by omega) h1 a N ha
    refine ⟨u, w', ⟨Own.mk hb hB' h2 h3 (by simpa using h4) ?_, by simpa [blkOf] using hF⟩, hr⟩
    rw [Nat.mul_one] at h5 ⊢
    rw [← h5, List.take_set]
theorem R_storeOwnB {B e c i : Nat} {A : Option Addr} {xs : List UInt8} {v : UInt8} (hs : sz P t = some 1) (hx : ev E x = some (.pointer (some ((adr A).add ((i : Int).toNat * 1))))) (hy : ev E y = some (vb v)) (hQ : OwnB w B e A c xs) (hi : i < xs.length) :
    RunsTo P w E ⟨none, .store t x y, ty, pos, after, guard⟩ (fun _ w' => OwnB w' B e A c (xs.set i v) ∧ Fr (blkOf A) w w') := by
  intro a N ha
  obtain ⟨u, w', ⟨h1, h2⟩, hr⟩ := R_storeOwn (ty := ty) (pos := pos) (after := after) (guard := guard) hs hx hy hQ hi rfl a N ha
  refine ⟨u, w', ⟨?_, h2⟩, hr⟩
  unfold OwnB
  rw [List.length_set, List.map_set]
  exact h1
end
theorem OwnB.lt {w : World} {B e c : Nat} {A : Option Addr} {xs : List UInt8} (h : OwnB w B e A c xs) : ∀ i ∈ blkOf A, i < w.heap.size := Own.ltA h
theorem OwnB.off {w : World} {B e c : Nat} {A : Option Addr} {xs : List UInt8} (h : OwnB w B e A c xs) : ∀ i ∈ blkOf A, B ≤ i := Own.off h
theorem OwnB.notin {w : World} {B e c b t : Nat} {A : Option Addr} {xs : List UInt8} {cs : List Value} (h : OwnB w B e A c xs) (hB : Blk w b t cs) (hne : t ≠ e) : b ∉ blkOf A := by
  rcases Own.form h with ⟨rfl, _, _, _⟩ | ⟨g, cur, rfl, _, hg, _⟩
  · simp [blkOf]
  · simpa [blkOf] using hB.ne hg hne
theorem own_notin {M : List Nat} {A : Option Addr} {n : Nat} (h : ∀ i ∈ blkOf A, i < n) (hM : ∀ i ∈ M, n ≤ i) : ∀ i ∈ blkOf A, i ∉ M := fun i hi hm => by
  have := h i hi; have := hM i hm; omega
theorem OwnB.le {w : World} {B B' e c : Nat} {A : Option Addr} {xs : List UInt8} (h : OwnB w B e A c xs) (hb : B' ≤ B) : OwnB w B' e A c xs := by
  rcases Own.form h with ⟨rfl, h1, rfl, h2⟩ | ⟨g, cur, rfl, hg, hB, h1, h3, h4, h5⟩
  · have : xs = [] := List.eq_nil_of_length_eq_zero h1
    subst this
    exact OwnB.nil ..
  · exact Own.mk (Nat.le_trans hb hg) hB h1 h3 h4 h5
end Go.Sx
