/- SX, seventeenth part: an argument that is a list of lists of bytes, with their room. -/
import Derived.Test.YtijckogioombdaaSx13
import Derived.Test.YtijckogioombdaaGl
import Derived.Deep.Matrix
set_option linter.unusedVariables false
set_option linter.unusedSimpArgs false
namespace Go.Sx
open Go Go.ChangeShapes Go.WideShapes Go.Deep
/-- a list of lists of bytes that is read; each has room for itself -/
def RdLC (w : World) (A : Option Addr) (L : List (List UInt8)) : Prop :=
  ∀ j bs, L[j]? = some bs → A.isSome = true ∧ ∃ Ai ci, w.cell? ((adr A).add j) = some (.slice Ai bs.length ci) ∧ bs.length ≤ ci ∧ Rd w Ai (bs.map vb)
theorem RdLC.ll {w : World} {A : Option Addr} {L : List (List UInt8)} (h : RdLC w A L) : RdLL w A L := by
  intro j bs hj
  obtain ⟨h1, Ai, ci, h3, _, h4⟩ := h j bs hj
  exact ⟨h1, Ai, ci, h3, h4⟩
theorem open_listc {H : Type} {enc : TypeId × Value → H} {P : Program} {W : World} {t e q : TypeId} {A : Option Addr} {len cap : Nat} {d : DataW H} {ps : List MemPlace} {ts : List TypeId} {ds : List (DataW H)} {j : Nat}
    (hu : P.underlying t = some (.slice e)) (he : P.underlying e = some (.slice q)) (hq : P.underlying q = some (.int .u8)) (hce : P.cellsOf e = 1) (hcq : P.cellsOf q = 1) (hB : P.bytesOf e = 24) (ht : ts[j]? = some t) (hd : ds[j]? = some d)
    (hsz : (DataW.weightsEach P ts ds).all (· ≤ reachBytes) = true)
    (h : DataW.Trod enc P W 0 (fun _ => true) true t (.slice A len cap) d ps) : ∃ L : List (List UInt8), len = L.length ∧ RdLC W A L ∧ L.length * 24 ≤ 140737488351232 := by
  obtain ⟨fuel, hf⟩ := h
  rcases open_int_rows hu he hq hce hcq hf with ⟨hcs, _⟩ | ⟨a, l, c, A2, L2, C2, Z2, hcs, _, hl, hm, hx, hcell⟩
  · simp [Value.cells] at hcs
    obtain ⟨rfl, rfl, rfl⟩ := hcs
    exact ⟨[], rfl, fun j bs h => by simp at h, by simp⟩
  · simp [Value.cells] at hcs
    obtain ⟨rfl, rfl, rfl⟩ := hcs
    have z : len * 24 ≤ 140737488351232 := by
      obtain ⟨hx, _⟩ := Prod.mk.inj hx
      subst hx
      have z := sized_slice hsz ht hd hu
      rw [hB] at z
      simp only [List.length_map, List.length_range, reachBytes] at z
      omega
    refine ⟨(List.range len).map fun r => ((Z2 r).take (L2 r)).map fun n => UInt8.ofNat n.toNat, by simp, ?_, by simpa using z⟩
    intro r bs hr
    have hrl : r < len := by
      have := (List.getElem?_eq_some_iff.1 hr).1
      simpa using this
    rw [List.getElem?_map, List.getElem?_range hrl] at hr
    simp only [Option.map_some, Option.some.injEq] at hr
    obtain ⟨h1, h2, h3, h4, h5, h6, h7⟩ := hcell r (by omega)
    have hlen : bs.length = L2 r := by rw [← hr]; simp; omega
    refine ⟨rfl, A2 r, C2 r, ?_, by omega, ?_⟩
    · rw [hlen]; exact h1
    · intro i v hi
      have hil : i < L2 r := by
        have := (List.getElem?_eq_some_iff.1 hi).1
        simp at this; omega
      cases hA : A2 r with
      | none => have := h6 hA; omega
      | some a' =>
        refine ⟨rfl, ?_⟩
        have hc2 := (h7 a' hA).2 i (by omega)
        simp only [adr, Option.getD_some]
        rw [hc2]
        have hiz : i < (Z2 r).length := by omega
        have hg : (Z2 r).getD i 0 = (Z2 r)[i] := by simp [List.getD_eq_getElem?_getD, hiz]
        rw [hg, vb_nat (h5 _ (List.getElem_mem hiz))]
        rw [← hr] at hi
        simp [List.getElem?_map, List.getElem?_take, hil, List.getElem?_eq_getElem hiz] at hi
        rw [← hi]
end Go.Sx
