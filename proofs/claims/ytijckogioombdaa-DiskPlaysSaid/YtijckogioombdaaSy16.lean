/- SX, sixteenth part: arguments that are calls (three numbers and bytes), and lists of such. -/
import Derived.Test.YtijckogioombdaaSx13
import Derived.Test.YtijckogioombdaaGi
import Derived.Deep.Slices
set_option linter.unusedVariables false
set_option linter.unusedSimpArgs false
namespace Go.Sx
open Go Go.ChangeShapes Go.WideShapes Go.Deep
/-- Bytes in a slice's cell. -/
theorem cell_bytes {H : Type} {enc : TypeId × Value → H} {P : Program} {W : World} {t e : TypeId} {fuel : Nat} {cs : List Value} {x : DataW H × List MemPlace}
    (hu : P.underlying t = some (.slice e)) (he : P.underlying e = some (.int .u8)) (hc : P.cellsOf e = 1) (hf : DataW.trod enc P W 0 (fun _ => true) true fuel t cs = some x) :
    ∃ A cap bs, cs = [.slice A (List.length bs) cap] ∧ bs.length ≤ cap ∧ cap ≤ maxLen ∧ Rd W A ((bs : List UInt8).map vb) := by
  rcases open_ints hu he hc hf with ⟨hcs, _⟩ | ⟨a, l, c, zs, hcs, _, hl, hm, hz, hx, hcell, hwz⟩
  · exact ⟨none, 0, [], hcs, Nat.le_refl _, Nat.zero_le _, Rd.nil _ _⟩
  · simp at hz
    have hlen : ((zs.take l).map fun n => UInt8.ofNat n.toNat).length = l := by simp; omega
    refine ⟨some a, c, (zs.take l).map fun n => UInt8.ofNat n.toNat, by rw [hlen]; exact hcs, by rw [hlen]; exact hl, hm, ?_⟩
    intro i v hi
    have hil : i < l := by
      have := (List.getElem?_eq_some_iff.1 hi).1
      simp at this; omega
    have hiz : i < zs.length := by omega
    refine ⟨rfl, ?_⟩
    simp only [adr, Option.getD_some]
    rw [hcell i hiz]
    have hg : zs.getD i 0 = zs[i] := by simp [List.getD_eq_getElem?_getD, hiz]
    rw [hg, vb_nat (hwz _ (List.getElem_mem hiz))]
    simp [List.getElem?_map, List.getElem?_take, hil, List.getElem?_eq_getElem hiz] at hi
    rw [← hi]
theorem i64_wf {n : Int} (h : (Lit.int .i64 n).wf = true) : -9223372036854775808 ≤ n ∧ n ≤ 9223372036854775807 := by
  simp only [Lit.wf, IntKind.min, IntKind.max, IntKind.bits, IntKind.signed, Bool.and_eq_true, decide_eq_true_eq, if_true] at h
  omega
/-- a call's cells -/
def doC (k : Do) (A : Option Addr) (c : Nat) : List Value := [vi k.op, vi k.file, vi k.n, .slice A k.b.length c]
def DoOk (W : World) (k : Do) (A : Option Addr) (c : Nat) : Prop := k.b.length ≤ c ∧ c ≤ maxLen ∧ Rd W A (k.b.map vb) ∧ k.n ≤ 9223372036854775807
structure DoT (P : Program) (t ti ts e : TypeId) : Prop where
  str : ∃ fs, P.underlying t = some (.struct fs) ∧ fs.toList.map (fun f => (f.type, f.offset)) = [(ti, 0), (ti, 1), (ti, 2), (ts, 3)]
  int : P.underlying ti = some (.int .i64)
  sl : P.underlying ts = some (.slice e)
  u8 : P.underlying e = some (.int .u8)
  ci : P.cellsOf ti = 1
  cs : P.cellsOf ts = 1
  ce : P.cellsOf e = 1
  ct : P.cellsOf t = 4
theorem four {α : Type} : ∀ (l : List α), l.length = 4 → ∃ a b c d, l = [a, b, c, d]
  | [a, b, c, d], _ => ⟨a, b, c, d, rfl⟩
theorem do_cells {H : Type} {enc : TypeId × Value → H} {P : Program} {W : World} {t ti ts e : TypeId} {fuel : Nat} {cs : List Value} {x : DataW H × List MemPlace} (hT : DoT P t ti ts e)
    (hf : DataW.trod enc P W 0 (fun _ => true) true fuel t cs = some x) : ∃ k A c, cs = doC k A c ∧ DoOk W k A c := by
  obtain ⟨fs, hst, hfs⟩ := hT.str
  cases fuel with
  | zero => simp [DataW.trod] at hf
  | succ fuel =>
    rw [DataW.trod_step] at hf
    unfold DataW.trodStep at hf
    rw [hst] at hf
    simp only [hT.ct] at hf
    split at hf
    · rename_i hl
      obtain ⟨xs, hm, _⟩ := Option.map_eq_some_iff.1 hf
      obtain ⟨f0, f1, f2, f3, hfl⟩ := four fs.toList (by have := congrArg List.length hfs; simpa using this)
      obtain ⟨c0, c1, c2, c3, rfl⟩ := four cs hl
      rw [hfl] at hm hfs
      simp only [List.map_cons, List.map_nil, List.cons.injEq, Prod.mk.injEq, and_true] at hfs
      obtain ⟨⟨t0, o0⟩, ⟨t1, o1⟩, ⟨t2, o2⟩, t3, o3⟩ := hfs
      simp only [List.mapM_cons, List.mapM_nil, t0, o0, t1, o1, t2, o2, t3, o3, hT.ci, hT.cs, bind, Option.bind_eq_some_iff, pure] at hm
      obtain ⟨x0, h0, _, ⟨x1, h1, _, ⟨x2, h2, _, ⟨x3, h3, _⟩, _⟩, _⟩, _⟩ := hm
      simp only [List.drop_zero, List.drop_succ_cons, List.take_succ_cons, List.take_zero] at h0 h1 h2 h3
      obtain ⟨n0, e0, _, w0⟩ := DataW.trod_int hT.int h0
      obtain ⟨n1, e1, _, w1⟩ := DataW.trod_int hT.int h1
      obtain ⟨n2, e2, _, w2⟩ := DataW.trod_int hT.int h2
      obtain ⟨A, cap, bs, e3, g1, g2, g3⟩ := cell_bytes hT.sl hT.u8 hT.ce h3
      simp at e0 e1 e2 e3
      subst e0; subst e1; subst e2; subst e3
      exact ⟨⟨n0, n1, n2, bs⟩, A, cap, rfl, g1, g2, g3, (i64_wf w2).2⟩
    · cases hf
theorem open_do {H : Type} {enc : TypeId × Value → H} {P : Program} {W : World} {t ti ts e : TypeId} {base : Nat} {v : Value} {d : DataW H} {ps : List MemPlace} (hT : DoT P t ti ts e)
    (hv : Value.okWide P W .any base t v) (h : DataW.Trod enc P W 0 (fun _ => true) true t v d ps) : ∃ k A c, v = .agg (doC k A c).toArray ∧ DoOk W k A c := by
  obtain ⟨fs, hst, _⟩ := hT.str
  obtain ⟨cs, rfl, _⟩ := okWide_struct hst hv
  obtain ⟨fuel, hf⟩ := h
  obtain ⟨k, A, c, h1, h2⟩ := do_cells hT hf
  refine ⟨k, A, c, ?_, h2⟩
  rw [← h1]
  simp [Value.cells]
/-- a list of calls that is read -/
def RdDo (w : World) (A : Option Addr) (L : List Do) : Prop :=
  ∀ (j : Nat) k, L[j]? = some k → A.isSome = true ∧ ∃ Ai ci, (∀ (r : Nat) v, (doC k Ai ci)[r]? = some v → w.cell? (((adr A).add ((j : Int).toNat * 4)).add r) = some v) ∧ DoOk w k Ai ci
theorem open_dos {H : Type} {enc : TypeId × Value → H} {P : Program} {W : World} {t q ti ts e : TypeId} {A : Option Addr} {len cap : Nat} {d : DataW H} {ps : List MemPlace} {tl : List TypeId} {ds : List (DataW H)} {j : Nat} (hT : DoT P q ti ts e)
    (hu : P.underlying t = some (.slice q)) (hB : P.bytesOf q = 48) (ht : tl[j]? = some t) (hd : ds[j]? = some d) (hsz : (DataW.weightsEach P tl ds).all (· ≤ reachBytes) = true)
    (h : DataW.Trod enc P W 0 (fun _ => true) true t (.slice A len cap) d ps) : ∃ L : List Do, len = L.length ∧ RdDo W A L ∧ L.length * 48 ≤ 140737488351232 := by
  obtain ⟨fuel, hf⟩ := h
  rcases open_slice hu hf with ⟨hcs, _⟩ | ⟨a, l, c, m, n, D, Pl, hcs, _, hl, hm, hmm, hx, hel⟩
  · simp [Value.cells] at hcs
    obtain ⟨rfl, rfl, rfl⟩ := hcs
    exact ⟨[], rfl, fun j k h => by simp at h, by simp⟩
  · simp [Value.cells] at hcs
    obtain ⟨rfl, rfl, rfl⟩ := hcs
    simp only [if_true] at hmm
    subst hmm
    have z : len * 48 ≤ 140737488351232 := by
      obtain ⟨hx, _⟩ := Prod.mk.inj hx
      subst hx
      have z := sized_slice hsz ht hd hu
      rw [hB] at z
      simp only [List.length_map, List.length_range, reachBytes] at z
      omega
    have key : ∀ n, n ≤ len → ∃ L : List Do, L.length = n ∧ RdDo W (some a) L := by
      intro n
      induction n with
      | zero => intro _; exact ⟨[], rfl, fun j k h => by simp at h⟩
      | succ n ih =>
        intro hn
        obtain ⟨L, hL, hR⟩ := ih (by omega)
        obtain ⟨cs', h1, h2⟩ := hel n (by omega)
        obtain ⟨k, Ai, ci, rfl, hk⟩ := do_cells hT h2
        obtain ⟨_, _, hc⟩ := World.cells?_some h1
        refine ⟨L ++ [k], by simp [hL], fun j k' hj => ?_⟩
        rcases Nat.lt_or_ge j n with hjn | hjn
        · rw [List.getElem?_append_left (by omega)] at hj
          exact hR j k' hj
        · have hjl := (List.getElem?_eq_some_iff.1 hj).1
          simp [hL] at hjl
          obtain rfl : j = n := by omega
          rw [List.getElem?_append_right (by omega), hL] at hj
          simp at hj
          subst hj
          refine ⟨rfl, Ai, ci, fun r v hr => ?_, hk⟩
          have hr4 : r < 4 := by
            have := (List.getElem?_eq_some_iff.1 hr).1
            simpa [doC] using this
          have := hc r (by rw [hT.ct]; exact hr4)
          rw [hT.ct] at this
          simp only [adr, Option.getD_some, Int.toNat_natCast]
          rw [this, hr]
    obtain ⟨L, hL, hR⟩ := key len (Nat.le_refl _)
    exact ⟨L, hL.symm, hR, by rw [hL]; exact z⟩
theorem RdDo.fr0 {w w' : World} {A : Option Addr} {L : List Do} (h : RdDo w A L) (hf : Fr [] w w') : RdDo w' A L := by
  intro j k hj
  obtain ⟨h1, Ai, ci, h2, h3, h4, h5, h6⟩ := h j k hj
  exact ⟨h1, Ai, ci, fun r v hr => hf.cell (h2 r v hr) (by simp), h3, h4, h5.fr0 hf, h6⟩
theorem cap_bytes {H : Type} {enc : TypeId × Value → H} {P : Program} {W : World} {t e : TypeId} {A : Option Addr} {len cap : Nat} {d : DataW H} {ps : List MemPlace}
    (hu : P.underlying t = some (.slice e)) (he : P.underlying e = some (.int .u8)) (hc : P.cellsOf e = 1) (h : DataW.Trod enc P W 0 (fun _ => true) true t (.slice A len cap) d ps) : len ≤ cap := by
  obtain ⟨fuel, hf⟩ := h
  obtain ⟨A2, c2, bs, hcs, h1, _, _⟩ := cell_bytes hu he hc hf
  simp [Value.cells] at hcs
  obtain ⟨rfl, rfl, rfl⟩ := hcs
  exact h1
end Go.Sx
