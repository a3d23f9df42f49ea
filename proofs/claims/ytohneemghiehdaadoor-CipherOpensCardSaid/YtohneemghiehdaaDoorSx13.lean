/- SX, thirteenth part: what a law's arguments hold; what a listed table of rows holds. -/
import Derived.Test.YtohneemghiehdaaDoorSx12
import Derived.Carry
import Derived.SizedLaws
import Derived.ChangeSlices
import Derived.Lib.LaidTab
set_option linter.unusedVariables false
set_option linter.unusedSimpArgs false
namespace Go.Sx
open Go Go.ChangeShapes Go.WideShapes
theorem vb_nat {n : Int} (h : (Lit.int .u8 n).wf = true) : (.int .u8 n : Value) = vb (UInt8.ofNat n.toNat) := by
  have h0 : 0 ≤ n ∧ n < 256 := by
    simp only [Lit.wf, IntKind.min, IntKind.max, IntKind.bits, IntKind.signed, Bool.and_eq_true, decide_eq_true_eq, Bool.false_eq_true, if_false] at h
    omega
  show (.int .u8 n : Value) = .int .u8 ((UInt8.ofNat n.toNat).toNat : Int)
  rw [UInt8.toNat_ofNat']
  congr 1
  omega
/-- An argument of bytes. -/
theorem open_bytes {H : Type} {enc : TypeId × Value → H} {P : Program} {W : World} {t e : TypeId} {A : Option Addr} {len cap : Nat} {d : DataW H} {ps : List MemPlace} {ts : List TypeId} {ds : List (DataW H)} {j : Nat}
    (hu : P.underlying t = some (.slice e)) (he : P.underlying e = some (.int .u8)) (hc : P.cellsOf e = 1) (hB : P.bytesOf e = 1) (ht : ts[j]? = some t) (hd : ds[j]? = some d)
    (hsz : (DataW.weightsEach P ts ds).all (· ≤ reachBytes) = true)
    (h : DataW.Trod enc P W 0 (fun _ => true) true t (.slice A len cap) d ps) : ∃ bs : List UInt8, len = bs.length ∧ Rd W A (bs.map vb) ∧ bs.length ≤ 140737488351232 := by
  obtain ⟨fuel, hf⟩ := h
  rcases open_ints hu he hc hf with ⟨hcs, _⟩ | ⟨x, l, c, zs, hcs, _, hl, _, hz, hx, hcell, hwz⟩
  · simp [Value.cells] at hcs
    obtain ⟨rfl, rfl, rfl⟩ := hcs
    exact ⟨[], rfl, Rd.nil _ _, by simp⟩
  · simp [Value.cells] at hcs
    obtain ⟨rfl, rfl, rfl⟩ := hcs
    simp at hz
    have z : len ≤ 140737488351232 := by
      obtain ⟨hx, _⟩ := Prod.mk.inj hx
      subst hx
      have z := sized_slice hsz ht hd hu
      rw [hB] at z
      simp only [lits, List.length_map, List.length_take, List.length_drop, reachBytes] at z
      omega
    refine ⟨(zs.take len).map fun n => UInt8.ofNat n.toNat, by simp; omega, ?_, by simp; omega⟩
    intro i v hi
    have hil : i < len := by
      have := (List.getElem?_eq_some_iff.1 hi).1
      simp at this; omega
    have hiz : i < zs.length := by omega
    refine ⟨rfl, ?_⟩
    simp only [adr, Option.getD_some]
    rw [hcell i hiz]
    have hg : zs.getD i 0 = zs[i] := by simp [List.getD_eq_getElem?_getD, hiz]
    rw [hg, vb_nat (hwz _ (List.getElem_mem hiz))]
    simp [List.getElem?_map, List.getElem?_take, hil, List.getElem?_eq_getElem hiz] at hi
    rw [← hi]
/-- the rows of a listed table -/
def rowsData {H : Type} (k : IntKind) (zss : List (List Int)) : DataW H := .agg (zss.map fun zs => Lib.tabData k zs)
theorem cells_of_rows {H : Type} {enc : TypeId × Value → H} {P : Program} {w : World} {base : Nat} {sp : Nat → Bool} {held : Bool} {fuel : Nat} {t u e : TypeId} {n m : Nat} {k : IntKind} {cs : List Value} {zss : List (List Int)} {p : List MemPlace}
    (ht : P.underlying t = some (.array n u)) (hu : P.underlying u = some (.array m e)) (he : P.underlying e = some (.int k)) (hce : P.cellsOf e = 1) (hcu : P.cellsOf u = m) (hct : P.cellsOf t = n * m) (hm : ∀ zs ∈ zss, zs.length = m) (hz : zss.length = n)
    (h : DataW.trod enc P w base sp held fuel t cs = some (rowsData k zss, p)) : cs = (zss.map fun zs => zs.map fun z => Value.int k z).flatten := by
  cases fuel with
  | zero => simp [DataW.trod] at h
  | succ fuel =>
    simp only [DataW.trod, ht, hcu, hct] at h
    split at h
    · rename_i hl
      obtain ⟨xs, hx, hxe⟩ := Option.map_eq_some_iff.1 h
      have hxs : xs.map (·.1) = zss.map fun zs => (Lib.tabData k zs : DataW H) := by
        have := congrArg Prod.fst hxe
        simpa [rowsData] using this
      have hrow : ∀ i, (hi : i < zss.length) → (cs.drop (i * m)).take m = zss[i].map fun z => Value.int k z := by
        intro i hi
        obtain ⟨b, hb, hf⟩ := Lib.mapM_at hx i i (List.getElem?_range (by omega))
        have h2 : (xs.map (·.1))[i]? = some b.1 := by simp [hb]
        rw [hxs] at h2
        simp only [List.getElem?_map, List.getElem?_eq_getElem hi, Option.map_some, Option.some.injEq] at h2
        refine Lib.cells_of_tab (n := m) hu he hce hcu (p := b.2) (enc := enc) (w := w) (base := base) (sp := sp) (held := held) (fuel := fuel) ?_
        rw [hf, h2]
      have key : ∀ (l : List (List Int)) (c : List Value), c.length = l.length * m → (∀ i, (hi : i < l.length) → (c.drop (i * m)).take m = l[i].map fun z => Value.int k z) → c = (l.map fun zs => zs.map fun z => Value.int k z).flatten := by
        intro l
        induction l with
        | nil => intro c hc _; simp at hc; simp [hc]
        | cons z l ih =>
          intro c hc hr
          have h0 := hr 0 (by simp)
          simp only [Nat.zero_mul, List.drop_zero, List.getElem_cons_zero] at h0
          rw [List.map_cons, List.flatten_cons, ← h0]
          have h1 := ih (c.drop m) (by rw [List.length_drop, hc, List.length_cons, Nat.add_mul]; omega) (fun i hi => by
            have := hr (i + 1) (by simp; omega)
            rw [List.drop_drop, show m + i * m = (i + 1) * m by rw [Nat.add_mul]; omega]
            simpa using this)
          rw [← h1, List.take_append_drop]
      exact key zss cs (by rw [hz]; exact hl) hrow
    · cases h
/-- the table stands first on the list -/
theorem rows_of_head {P : Program} {W : World} {name : String} {k : IntKind} {zss : List (List Int)} {rest : List (String × DataW Unit)} {g : Nat} {t u e : TypeId} {n m : Nat}
    (hg : P.globalNamed name = some g) (hty : (P.globals[g]?).map (·.type) = some t) (ht : P.underlying t = some (.array n u)) (hu : P.underlying u = some (.array m e)) (he : P.underlying e = some (.int k)) (hce : P.cellsOf e = 1) (hcu : P.cellsOf u = m) (hct : P.cellsOf t = n * m) (hm : ∀ zs ∈ zss, zs.length = m) (hz : zss.length = n)
    (h : laidMet P ((name, rowsData k zss) :: rest) W) : Rd W (some ⟨g, 0, none⟩) (zss.map fun zs => zs.map fun z => Value.int k z).flatten := by
  obtain ⟨ps, ⟨g', t', cs, fuel, p, q, hg', ht', hvar, hd, _, _⟩, _⟩ := h
  obtain rfl := Option.some.inj (hg.symm.trans hg')
  obtain rfl := Option.some.inj (hty.symm.trans ht')
  have hc := cells_of_rows ht hu he hce hcu hct hm hz hd
  intro j v hj
  refine ⟨rfl, ?_⟩
  rw [← hc] at hj
  simp only [adr, Option.getD_some, add_flat, Nat.zero_add]
  have := World.var?_cell hg hvar j
  rw [this]
  simpa using hj
end Go.Sx
