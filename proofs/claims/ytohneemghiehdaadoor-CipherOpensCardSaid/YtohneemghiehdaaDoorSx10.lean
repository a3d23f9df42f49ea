/- SX, tenth part: slice literals, a literal's bytes converted, noughts appended. -/
import Derived.Test.YtohneemghiehdaaDoorSx9
import Derived.Great.BuildSlice
import Derived.Lib.AppendZerosOnto
set_option linter.unusedVariables false
set_option linter.unusedSimpArgs false
namespace Go.Sx
open Go
section
variable {P : Program} {w : World} {E : Env} {dst : Option Nat} {ty : TypeId} {pos : String} {after : Array Edge} {guard : Option (Nat × Bool)} {x y s : Operand} {t t' : TypeId}

theorem rep_flat {l : List Value} {n : Nat} (hn : l.length = n) (hp : 0 < n) : ∀ len, (List.range (len * n)).map (fun k => l[k % n]!) = (List.replicate len l).flatten
  | 0 => by simp
  | len + 1 => by
    rw [List.replicate_succ, List.flatten_cons, ← rep_flat hn hp len, Nat.add_mul, Nat.one_mul, Nat.add_comm (len * n) n, List.range_add, List.map_append]
    congr 1
    · apply List.ext_getElem
      · simp [hn]
      · intro i h1 h2
        have hi : i < n := by simpa using h1
        simp [Nat.mod_eq_of_lt hi, List.getElem?_eq_getElem (show i < l.length by omega)]
    · rw [List.map_map]
      apply List.map_congr_left
      intro k _
      simp

/-- a slice literal with all its parts, in their order -/
theorem R_buildSlice {e n len bytes : Nat} {parts : List (Nat × Operand)} {zs : List Value} {vs cs : List Value} (el : Elem P t e n bytes) (hz : zr P e = some zs)
    (hlen : Nat.ble (len * n) 16777216 = true) (hpos : 0 < len * n) (hv : evL E (parts.map (·.2)) = some vs)
    (hc : fillV (List.replicate len zs).flatten (parts.map fun p => (p.1 * n, n)) vs = some cs) :
    RunsTo P w E ⟨dst, .buildSlice t len parts.toArray, ty, pos, after, guard⟩ (fun v w' => ∃ b, v = .slice (some ⟨b, 0, none⟩) len len ∧ b = w.heap.size ∧ Blk w' b e cs ∧ Fr [] w w') := fun a N ha => by
  obtain ⟨i, z, hi, hz0, rfl, rfl, hzs⟩ := el.row
  have hzz : zs = z.cells.toList := by
    unfold zr at hz
    rw [hi] at hz
    simp [hz0] at hz
    exact hz.symm
  subst hzz
  have hpe := parts_eval ha parts vs hv
  have hl : (parts.map (·.1)).length = vs.length := by rw [evL_length _ _ hv]; simp
  have hz2 : ((parts.map (·.1)).zip vs).map (·.2) = vs := List.map_snd_zip (by omega)
  have hz1 : ((parts.map (·.1)).zip vs).map (·.1) = parts.map (·.1) := List.map_fst_zip (by omega)
  have hparts : (parts.toArray.map fun (i, x) => (i, a.eval x)).toList = (parts.map (·.1)).zip vs := by rw [← hpe]; simp
  have hzero : (Array.range (len * i.size)).map (z.cells[· % z.cells.size]!) = (List.replicate len z.cells.toList).flatten.toArray := by
    apply Array.ext'
    rw [Array.toList_map, Array.toList_range, hzs]
    have := rep_flat (l := z.cells.toList) (n := i.size) (by simpa using hzs) el.pos len
    rw [← this]
    apply List.map_congr_left
    intro k _
    have hk : k % i.size < z.cells.size := by rw [hzs]; exact Nat.mod_lt _ el.pos
    rw [getElem!_pos z.cells _ hk, getElem!_pos z.cells.toList _ (by simpa using hk)]
    simp
  have hf := fill_spec (fun k => some (k * i.size, i.size)) ((parts.map (·.1)).zip vs) (parts.map fun p => (p.1 * i.size, i.size)) (List.replicate len z.cells.toList).flatten cs (by
    have : ((parts.map (·.1)).zip vs).map (fun p => some (p.1 * i.size, i.size)) = (((parts.map (·.1)).zip vs).map (·.1)).map (fun k => some (k * i.size, i.size)) := by rw [List.map_map]; rfl
    rw [this, hz1]
    simp) (by rw [hz2]; exact hc)
  have hr := run_buildSlice (P := P) w t e len (parts.toArray.map fun (i, x) => (i, a.eval x)) cs.toArray i z el.under hi hz0 (by have := Nat.le_of_ble_eq_true hlen; omega) (by omega) (by rw [hparts, hzero]; exact hf)
  refine ⟨_, _, ⟨w.heap.size, rfl, rfl, Blk.new w e cs, Fr.alloc _ _⟩, .inl ?_⟩
  simp only [execOp, Sem.run_bind]
  rw [hr]
  rfl

/-- the bytes of a literal, converted -/
theorem R_convB {e b n c : Nat} {cs : List Value} (hu : P.underlying t = some (.slice e)) (he : P.underlying e = some (.int .u8)) (hx : ev E x = some (.slice (some ⟨b, 0, none⟩) n c)) (hB : Blk w b t' cs) :
    RunsTo P w E ⟨dst, .convert t t x, ty, pos, after, guard⟩ (fun v w' => v = .slice (some ⟨b, 0, none⟩) n c ∧ Rd w' (some ⟨b, 0, none⟩) cs ∧ Fr [b] w w') := fun a N ha => by
  have hsh : w.shape? b = some (t', cs.length) := by
    unfold Blk at hB
    simp [World.shape?, hB]
  have hr : (convert t t (.slice (some ⟨b, 0, none⟩) n c)).run P w = .ok (.slice (some ⟨b, 0, none⟩) n c) (w.freeze ⟨b, cs.length, none⟩ 1) := by
    simp [convert, run_underlying hu, run_underlying he, markStringish, hsh]
  refine ⟨_, _, ⟨rfl, ?_, ?_⟩, .inl (by simp only [execOp, ha.eval hx, Sem.run_bind]; rw [hr]; rfl)⟩
  · have hb : (w.freeze ⟨b, cs.length, none⟩ 1).heap[b]? = some (.cells cs.toArray t' (cs.length, cs.length + 1)) := by
      unfold Blk at hB
      simp [World.freeze, Array.getElem?_modify, hB]
    intro j v hj
    refine ⟨rfl, ?_⟩
    simp only [adr, Option.getD_some, add_flat, Nat.zero_add]
    simp [World.cell?, hb, hj]
  · refine ⟨rfl, rfl, rfl, by simp [World.freeze], fun k _ hn => ?_⟩
    have hk : b ≠ k := fun h => hn (by simp [h])
    simp [World.freeze, Array.getElem?_modify, hk]

theorem zeroCells_list {z : Value} (hp : 0 < z.cells.size) (m : Nat) : (Builtin.zeroCells z.cells m).toList = (List.replicate m z.cells.toList).flatten := by
  unfold Builtin.zeroCells
  rw [Array.toList_map, Array.toList_range, ← rep_flat (l := z.cells.toList) (n := z.cells.size) (by simp) hp m]
  apply List.map_congr_left
  intro k _
  have hk : k % z.cells.size < z.cells.size := Nat.mod_lt _ hp
  rw [getElem!_pos z.cells _ hk, getElem!_pos z.cells.toList _ (by simpa using hk)]
  simp

/-- noughts appended, as many as the number says -/
theorem R_appendZeros {B n m c size e bytes : Nat} {A : Option Addr} {xs zs : List Value} {tx : TypeId} {kq kn : IntKind} (el : Elem P t e size bytes) (hz : zr P e = some zs) (hz1 : zs.all (·.oneCell') = true) (htn : P.underlying tx = some (.int kn)) (hs : ev E s = some (.slice A n c)) (hx : ev E x = some (.int kq (m : Int)))
    (hown : Own w B e size A n c xs) (hbytes : (n + m) * bytes ≤ 140737488355328) (h63 : n + m ≤ maxLen) (hbase : B ≤ w.heap.size) :
    RunsTo P w E ⟨dst, .call { callee := .builtin .append, args := #[s, x], argTypes := #[t, tx] }, ty, pos, after, guard⟩ (fun u w' => ∃ A' c', u = .slice A' (n + m) c' ∧ Own w' B e size A' (n + m) c' (xs ++ (List.replicate m zs).flatten) ∧ Fr (blkOf A) w w') := fun a N hA => by
  obtain ⟨i, z, hi, hz0, rfl, rfl, hzs⟩ := el.row
  have hzz : zs = z.cells.toList := by
    unfold zr at hz
    rw [hi] at hz
    simp [hz0] at hz
    exact hz.symm
  subst hzz
  have hp : 0 < z.cells.size := by rw [hzs]; exact el.pos
  have hzl := zeroCells_list (z := z) hp m
  have hzlen : (List.replicate m z.cells.toList).flatten.length = m * i.size := by
    rw [List.length_flatten, List.map_replicate, List.sum_replicate_nat, Array.length_toList, hzs]
  have hlen : (xs ++ (List.replicate m z.cells.toList).flatten).length = (n + m) * i.size := by rw [List.length_append, hown.len, hzlen, Nat.add_mul]
  have hsm : n + m ≤ 9223372036854775807 := by simp only [maxLen] at h63; omega
  have hmb : m * i.bytes ≤ 140737488355328 := Nat.le_trans (Nat.mul_le_mul_right _ (by omega)) hbytes
  suffices h : ∃ u w', (∃ A' c', u = .slice A' (n + m) c' ∧ Own w' B e i.size A' (n + m) c' (xs ++ (List.replicate m z.cells.toList).flatten) ∧ Fr (blkOf A) w w') ∧ (Builtin.append_ #[t, tx] ty #[.slice A n c, .int kq (m : Int)]).run P w = .ok u w' by
    obtain ⟨u, w', h1, h2⟩ := h
    exact ⟨u, w', h1, .inl (by simp [execOp, resolve, invoke, builtin, hA.eval hs, hA.eval hx, h2])⟩
  have hw : IntKind.i64.wrap (m : Int) = m := by rw [IntKind.wrap_i64]; omega
  have hneg : ¬ ((m : Int) < 0) := by omega
  have h48i : ¬ (281474976710656 < (m : Int) * (i.bytes : Int)) := by rw [← Int.natCast_mul]; omega
  have grow : ∀ (xs' : List Value) (A0 : Option Addr) (c0 : Nat), 0 < m → c0 < n + m → (xs' ++ (List.replicate m z.cells.toList).flatten).length = (n + m) * i.size → (Builtin.firstCells i.size n (.slice A0 n c0)).run P w.drew = .ok xs'.toArray w.drew → c0 ≤ n + m →
      ∃ u w', (∃ A' c', u = .slice A' (n + m) c' ∧ Own w' B e i.size A' (n + m) c' (xs' ++ (List.replicate m z.cells.toList).flatten) ∧ Fr (blkOf A0) w w') ∧ (Builtin.append_ #[t, tx] ty #[.slice A0 n c0, .int kq (m : Int)]).run P w = .ok u w' := by
    intro xs' A0 c0 h0 hg hl hold hcn
    have hr := Lib.run_append_grow_zeros (P := P) w t tx ty e i z kq kn el.under htn hi hz0 A0 n c0 xs' hold m h0 el.pos hg (by omega) (by omega) (growslice_fits (by omega) hbytes)
    have h3 : Builtin.zeroCells z.cells m = (List.replicate m z.cells.toList).flatten.toArray := by rw [← hzl]
    rw [h3] at hr
    have h4 : xs'.toArray ++ (List.replicate m z.cells.toList).flatten.toArray = (xs' ++ (List.replicate m z.cells.toList).flatten).toArray := by simp
    rw [h4] at hr
    exact ⟨_, _, ⟨_, _, rfl, grown_own (t := t) el w B hbase c0 xs' _ (n + m) hg h63 hl z hzs, ((Fr.drew w).then0 (Fr.alloc _ _)).mono (by simp)⟩, hr⟩
  rcases hown.form with ⟨rfl, rfl, rfl, rfl⟩ | ⟨g, cur, rfl, hb, hB, h1, h3, h4, h5⟩
  · by_cases hm : m = 0
    · subst hm
      refine ⟨_, w, ⟨none, 0, rfl, by simpa using Own.nil w B e i.size, Fr.refl _ _⟩, ?_⟩
      have hw0 : IntKind.i64.wrap 0 = 0 := by decide
      simp [Builtin.append_, run_underlying el.under, run_underlying htn, sizeOf, typeInfo, hi, asInt, asIntOf, hw0]
    · exact grow [] none 0 (by omega) (by omega) (by simpa using hlen) (run_firstCells_none w.drew i.size 0 0 0) (by omega)
  · by_cases hroom : n + m ≤ c
    · have hfit : n * i.size + (List.replicate m z.cells.toList).flatten.length ≤ cur.length := by rw [hzlen, h4, ← Nat.add_mul]; exact Nat.mul_le_mul_right _ hroom
      have hone : ∀ u ∈ (List.replicate m z.cells.toList).flatten, u.oneCell' = true := by
        intro u hu
        obtain ⟨l, hl, hul⟩ := List.mem_flatten.1 hu
        rw [(List.mem_replicate.1 hl).2] at hul
        exact one_of hz1 u hul
      have hst := run_storeCells_at (P := P) g (n * i.size) e (List.replicate m z.cells.toList).flatten 0 cur.toArray w hB (by simpa using hfit) hone
      simp only [Nat.add_zero] at hst
      have hr : (Builtin.append_ #[t, tx] ty #[.slice (some ⟨g, 0, none⟩) n c, .int kq (m : Int)]).run P w = .ok (.slice (some ⟨g, 0, none⟩) (n + m) c) (w.setRow g (over cur (n * i.size) (List.replicate m z.cells.toList).flatten).toArray) := by
        by_cases hm0 : m * i.size = 0
        · have hm : m = 0 := by
            rcases Nat.mul_eq_zero.1 hm0 with h | h
            · exact h
            · have := el.pos; omega
          subst hm
          have hw0 : IntKind.i64.wrap 0 = 0 := by decide
          have hn : n ≤ c := h1
          simp [Builtin.append_, run_underlying el.under, run_underlying htn, sizeOf, typeInfo, hi, asInt, asIntOf, hw0, hn, add_flat, over] at hst ⊢
          rw [hst]
          rfl
        · simp [Builtin.append_, run_underlying el.under, run_underlying htn, sizeOf, typeInfo, zeroValue, hi, hz0, asInt, asIntOf, hw, hneg, h48i, hroom, hm0, add_flat, hzl, hst, over]
      refine ⟨_, _, ⟨_, _, rfl, Own.mk hb (blk_setRow hB) hroom h3 ?_ ?_, by simpa [blkOf] using fr_setRow w g _⟩, hr⟩
      · simp only [over, List.length_append, List.length_take, List.length_drop]
        omega
      · rw [over, h5, ← hlen]
        exact List.take_left
    · have hold : (Builtin.firstCells i.size n (.slice (some ⟨g, 0, none⟩) n c)).run P w.drew = .ok xs.toArray w.drew :=
        run_firstCells_some w.drew i.size n ⟨g, 0, none⟩ n c xs hown.len (by have := hown.rd.cells; simpa using this)
      exact grow xs (some ⟨g, 0, none⟩) c (by omega) (by omega) hlen hold (by omega)

/-- the literal without parts -/
theorem R_buildSlice0 {e n bytes : Nat} (el : Elem P t e n bytes) : RunsTo P w E ⟨dst, .buildSlice t 0 #[], ty, pos, after, guard⟩ (fun v w' => ∃ b, v = .slice (some ⟨b, 0, none⟩) 0 0 ∧ b = w.heap.size ∧ Blk w' b e [] ∧ Fr [] w w') := fun a N ha => by
  obtain ⟨i, z, hi, hz0, rfl, rfl, hzs⟩ := el.row
  have hr : (Instr.buildSlice t 0 #[]).run P w = .ok (.slice (some ⟨w.heap.size, 0, none⟩) 0 0) (w.alloc (.cells #[] e)) := by
    simp [Instr.buildSlice, run_underlying el.under, sizeOf, typeInfo, hi, Instr.fill, newRow]
    rw [show Array.map (fun (_ : Nat) => (default : Value)) (Array.range 0) = #[] from Array.ext' (by rw [Array.toList_map, Array.toList_range]; rfl)]
  refine ⟨_, _, ⟨w.heap.size, rfl, rfl, Blk.new w e [], Fr.alloc _ _⟩, .inl ?_⟩
  simp only [execOp, Sem.run_bind]
  rw [show (Array.map (fun (x : Nat × Operand) => (x.fst, a.eval x.snd)) (#[] : Array (Nat × Operand))) = #[] from by simp, hr]
  rfl
theorem Own.empty {B b e size : Nat} (hb : B ≤ b) (hB : Blk w b e []) : Own w B e size (some ⟨b, 0, none⟩) 0 0 [] := Own.mk hb hB (Nat.le_refl _) (by decide) (by simp) (by simp)
end
end Go.Sx
