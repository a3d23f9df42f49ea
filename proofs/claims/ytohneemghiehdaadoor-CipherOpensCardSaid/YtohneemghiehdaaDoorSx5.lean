/- SX, fifth part: operations on memory. -/
import Derived.Test.YtohneemghiehdaaDoorSx4
set_option linter.unusedVariables false
set_option linter.unusedSimpArgs false
namespace Go.Sx
open Go

/-- so many cells -/
def sz (P : Program) (t : TypeId) : Option Nat := (P.info? t).map (·.size)
/-- so many bytes -/
def bys (P : Program) (t : TypeId) : Option Nat := (P.info? t).map (·.bytes)
def zr (P : Program) (t : TypeId) : Option (List Value) := ((P.info? t).bind (·.zero)).map (·.cells.toList)
def zv (P : Program) (t : TypeId) : Option Value := (P.info? t).bind (·.zero)
def aggB (P : Program) (t : TypeId) : Option Bool := match P.underlying t with
  | some (.struct _) | some (.array _ _) => some true
  | some _ => some false
  | none => none
def offB (P : Program) (s f : Nat) : Option Nat := match P.underlying s with
  | some (.struct fs) => match fs[f]? with
    | some x => match P.info? x.type with
      | some i => if i.size = 0 then none else some x.offset
      | none => none
    | none => none
  | _ => none
/-- a field's place and type -/
def fldB (P : Program) (s f : Nat) : Option (Nat × Nat) := match P.underlying s with
  | some (.struct fs) => (fs[f]?).map fun x => (x.offset, x.type)
  | _ => none

section
variable {P : Program} {w : World}

theorem run_isAgg {t : TypeId} {b : Bool} (h : aggB P t = some b) : (isAgg t).run P w = .ok b w := by
  unfold aggB at h
  split at h <;> rename_i hu
  · simp at h; subst h; simp [isAgg, run_underlying hu]
  · simp at h; subst h; simp [isAgg, run_underlying hu]
  · rename_i d h1 h2
    simp at h; subst h
    cases d <;> simp [isAgg, run_underlying hu] <;> first | exact h1 _ rfl | exact h2 _ _ rfl
  · cases h

theorem run_sizeOf {t : TypeId} {n : Nat} (h : sz P t = some n) : (sizeOf t).run P w = .ok n w := by
  unfold sz at h
  cases hi : P.info? t with
  | none => rw [hi] at h; cases h
  | some i => rw [hi] at h; simp at h; subst h; simp [sizeOf, typeInfo, hi]

theorem run_zeroValue' {t : TypeId} {v : Value} (h : zv P t = some v) : (zeroValue t).run P w = .ok v w := by
  unfold zv at h
  cases hi : P.info? t with
  | none => rw [hi] at h; cases h
  | some i =>
    rw [hi] at h
    simp at h
    simp [zeroValue, typeInfo, hi, h]

/-- one cell -/
theorem run_loadVar1 {t : TypeId} {a : Addr} {v : Value} (ht : aggB P t = some false) (hc : w.cell? a = some v) : (loadVar t a).run P w = .ok v w := by
  simp [loadVar, run_isAgg ht, hc]
/-- a row -/
theorem run_loadVarN {t t' : TypeId} {b o n : Nat} {cs : List Value} (ht : aggB P t = some true) (hs : sz P t = some n) (hB : Blk w b t' cs) (hle : o + n ≤ cs.length) :
    (loadVar t ⟨b, o, none⟩).run P w = .ok (.agg ((cs.drop o).take n).toArray) w := by
  have hl : ((cs.drop o).take n).length = n := by simp; omega
  have hc := run_loadCells_list (P := P) w ⟨b, o, none⟩ ((cs.drop o).take n) (fun j v hv => by
    have := (Rd.ofBlk hB o n) j v hv
    simpa [adr] using this.2)
  rw [hl] at hc
  simp [loadVar, run_isAgg ht, run_sizeOf hs, hc]

theorem blk_setRow {b : Nat} {t : TypeId} {cs cs' : List Value} (hB : Blk w b t cs) : Blk (w.setRow b cs'.toArray) b t cs' := by
  unfold Blk at hB ⊢
  simp [World.setRow, Array.getElem?_modify, hB]
theorem fr_setRow (w : World) (b : Nat) (cs : Array Value) : Fr [b] w (w.setRow b cs) := by
  refine ⟨rfl, rfl, rfl, by simp [World.setRow], fun k _ hn => ?_⟩
  have : b ≠ k := fun e => hn (by simp [e])
  simp [World.setRow, Array.getElem?_modify, this]

/-- a part of a row written over -/
def over (cs : List Value) (o : Nat) (vs : List Value) : List Value := cs.take o ++ vs ++ cs.drop (o + vs.length)

theorem run_storeVarN {t t' : TypeId} {b o n : Nat} {cs : List Value} {vs : Array Value} (hs : sz P t = some n) (hn : vs.size = n) (hB : Blk w b t' cs) (hle : o + n ≤ cs.length) (h1 : vs.toList.all (·.oneCell') = true) :
    (storeVar t ⟨b, o, none⟩ (.agg vs)).run P w = .ok () (w.setRow b (over cs o vs.toList).toArray) := by
  subst hn
  have := run_storeCells_at (P := P) b o t' vs.toList 0 cs.toArray w hB (by simpa using hle) (fun v hv => by simpa using (List.all_eq_true.1 h1) v hv)
  simp only [Nat.add_zero] at this
  simp [storeVar, run_sizeOf hs, Value.cells, over, this]

theorem run_storeVar1 {t t' : TypeId} {b o : Nat} {cs : List Value} {v : Value} (hs : sz P t = some 1) (hB : Blk w b t' cs) (hlt : o < cs.length) (h1 : v.oneCell' = true) :
    (storeVar t ⟨b, o, none⟩ v).run P w = .ok () (w.setCell ⟨b, o, none⟩ v) := by
  have hc : v.cells = #[v] := by cases v <;> first | rfl | cases h1
  have hcell : w.cell? ⟨b, o, none⟩ = some cs[o] := hB.at_ (List.getElem?_eq_getElem hlt)
  have hst := run_store P w ⟨b, o, none⟩ v .plain h1
  rw [hcell] at hst
  simp only [hB.free, Bool.false_eq_true, if_false] at hst
  simp only [storeVar, hc, run_sizeOf hs, Sem.run_bind, Result.andThen_ok]
  simp [storeCells, Addr.add, hst]
end

section
variable {P : Program} {w : World} {E : Env} {dst : Option Nat} {ty : TypeId} {pos : String} {after : Array Edge} {guard : Option (Nat × Bool)} {x y : Operand} {t t' : TypeId}

theorem R_load {a : Addr} {v : Value} (ht : aggB P t = some false) (hx : ev E x = some (.pointer (some a))) (hc : w.cell? a = some v) : Runs P w E ⟨dst, .load t x, ty, pos, after, guard⟩ v := fun A N ha => by
  simp [execOp, ha.eval hx, Instr.loadAt, Instr.sureAddr, run_loadVar1 ht hc]
theorem R_loadB {b o : Nat} {cs : List Value} {v : Value} (ht : aggB P t = some false) (hx : ev E x = some (.pointer (some ⟨b, o, none⟩))) (hB : Blk w b t' cs) (hv : cs[o]? = some v) : Runs P w E ⟨dst, .load t x, ty, pos, after, guard⟩ v :=
  R_load ht hx (hB.at_ hv)
theorem R_loadN {b o n : Nat} {cs : List Value} (ht : aggB P t = some true) (hs : sz P t = some n) (hx : ev E x = some (.pointer (some ⟨b, o, none⟩))) (hB : Blk w b t' cs) (hle : o + n ≤ cs.length) :
    Runs P w E ⟨dst, .load t x, ty, pos, after, guard⟩ (.agg ((cs.drop o).take n).toArray) := fun A N ha => by
  simp [execOp, ha.eval hx, Instr.loadAt, Instr.sureAddr, run_loadVarN ht hs hB hle]
/-- a row, the cells one by one -/
theorem R_loadCs {a : Addr} {cs : List Value} (ht : aggB P t = some true) (hs : sz P t = some cs.length) (hx : ev E x = some (.pointer (some a))) (hc : ∀ j v, cs[j]? = some v → w.cell? (a.add j) = some v) :
    Runs P w E ⟨dst, .load t x, ty, pos, after, guard⟩ (.agg cs.toArray) := fun A N ha => by
  have h := run_loadCells_list (P := P) w a cs hc
  simp [execOp, ha.eval hx, Instr.loadAt, Instr.sureAddr, loadVar, run_isAgg ht, run_sizeOf hs, h]
theorem R_store {b o : Nat} {cs : List Value} {v : Value} (hs : sz P t = some 1) (hx : ev E x = some (.pointer (some ⟨b, o, none⟩))) (hy : ev E y = some v) (hB : Blk w b t' cs) (hlt : o < cs.length) (h1 : v.oneCell' = true) :
    RunsTo P w E ⟨none, .store t x y, ty, pos, after, guard⟩ (fun _ w' => Blk w' b t' (cs.set o v) ∧ Fr [b] w w') := fun A N ha => by
  refine ⟨undef, w.setCell ⟨b, o, none⟩ v, ⟨hB.set o v, Fr.setCell w ⟨b, o, none⟩ v⟩, .inr ⟨?_, rfl⟩⟩
  simp [execOp, ha.eval hx, ha.eval hy, Instr.storeAt, Instr.sureAddr, run_storeVar1 hs hB hlt h1]
theorem R_storeN {b o n : Nat} {cs : List Value} {vs : Array Value} (hs : sz P t = some n) (hn : vs.size = n) (hx : ev E x = some (.pointer (some ⟨b, o, none⟩))) (hy : ev E y = some (.agg vs)) (hB : Blk w b t' cs) (hle : o + n ≤ cs.length) (h1 : vs.toList.all (·.oneCell') = true) :
    RunsTo P w E ⟨none, .store t x y, ty, pos, after, guard⟩ (fun _ w' => Blk w' b t' (over cs o vs.toList) ∧ Fr [b] w w') := fun A N ha => by
  refine ⟨undef, _, ⟨blk_setRow hB, fr_setRow w b _⟩, .inr ⟨?_, rfl⟩⟩
  simp [execOp, ha.eval hx, ha.eval hy, Instr.storeAt, Instr.sureAddr, run_storeVarN hs hn hB hle h1]
theorem R_alloc {zs : List Value} (hz : zr P t = some zs) : RunsTo P w E ⟨dst, .alloc t, ty, pos, after, guard⟩ (fun v w' => ∃ b, v = .pointer (some ⟨b, 0, none⟩) ∧ b = w.heap.size ∧ Blk w' b t zs ∧ Fr [] w w') := fun A N ha => by
  unfold zr at hz
  cases hv : (P.info? t).bind (·.zero) with
  | none => rw [hv] at hz; cases hz
  | some z =>
    rw [hv] at hz
    simp at hz
    subst hz
    refine ⟨_, w.alloc (.cells z.cells.toList.toArray t), ⟨_, rfl, rfl, Blk.new w t _, Fr.alloc w _⟩, .inl ?_⟩
    simp [execOp, Instr.alloc, run_zeroValue' (P := P) (t := t) hv, newVar, newRow]
theorem R_box {v : Value} (hx : ev E x = some v) : RunsTo P w E ⟨dst, .box t x, ty, pos, after, guard⟩ (fun u w' => ∃ b, u = .pointer (some ⟨b, 0, none⟩) ∧ b = w.heap.size ∧ Blk w' b t v.cells.toList ∧ Fr [] w w') := fun A N ha => by
  refine ⟨_, w.alloc (.cells v.cells.toList.toArray t), ⟨_, rfl, rfl, Blk.new w t _, Fr.alloc w _⟩, .inl ?_⟩
  simp [execOp, ha.eval hx, Instr.box, newVar, newRow]
theorem R_fieldAddr {s f o : Nat} {b o0 : Nat} (hf : offB P s f = some o) (hx : ev E x = some (.pointer (some ⟨b, o0, none⟩))) : Runs P w E ⟨dst, .fieldAddr s x f, ty, pos, after, guard⟩ (.pointer (some ⟨b, o0 + o, none⟩)) := fun A N ha => by
  unfold offB at hf
  split at hf
  · rename_i fs hu
    split at hf
    · rename_i fl hfl
      split at hf
      · rename_i i hi
        split at hf
        · cases hf
        · rename_i hne
          simp at hf
          subst hf
          simp [execOp, ha.eval hx, Instr.fieldAt, run_underlying hu, hfl, Instr.sureAddr, fieldPlace, sizeOf, typeInfo, hi, hne, add_flat]
      · cases hf
    · cases hf
  · cases hf
/-- the same at any address -/
theorem R_fieldAddr' {s f o : Nat} {a : Addr} (hf : offB P s f = some o) (hx : ev E x = some (.pointer (some a))) : Runs P w E ⟨dst, .fieldAddr s x f, ty, pos, after, guard⟩ (.pointer (some (a.add o))) := fun A N ha => by
  unfold offB at hf
  split at hf
  · rename_i fs hu
    split at hf
    · rename_i fl hfl
      split at hf
      · rename_i i hi
        split at hf
        · cases hf
        · rename_i hne
          simp at hf
          subst hf
          simp [execOp, ha.eval hx, Instr.fieldAt, run_underlying hu, hfl, Instr.sureAddr, fieldPlace, sizeOf, typeInfo, hi, hne]
      · cases hf
    · cases hf
  · cases hf
/-- an element of an array behind an address -/
theorem R_indexArr {len e n : Nat} {b o : Nat} {k : IntKind} {i : Int} (hu : P.underlying t = some (.array len e)) (hs : sz P e = some n) (hx : ev E x = some (.pointer (some ⟨b, o, none⟩))) (hy : ev E y = some (.int k i)) (h0 : 0 ≤ i) (h1 : i < (len : Int)) :
    Runs P w E ⟨dst, .indexAddr t x y, ty, pos, after, guard⟩ (.pointer (some ⟨b, o + i.toNat * n, none⟩)) := fun A N ha => by
  simp [execOp, ha.eval hx, ha.eval hy, Instr.indexAt, asIntOf, run_underlying hu, Instr.sureAddr, h0, h1, run_sizeOf hs, add_flat]
/-- an element of a slice -/
theorem R_indexSl {e n len cap : Nat} {A : Option Addr} {k : IntKind} {i : Int} (hu : P.underlying t = some (.slice e)) (hs : sz P e = some n) (hx : ev E x = some (.slice A len cap)) (hy : ev E y = some (.int k i)) (h0 : 0 ≤ i) (h1 : i < (len : Int)) (hA : A.isSome = true) :
    Runs P w E ⟨dst, .indexAddr t x y, ty, pos, after, guard⟩ (.pointer (some ((adr A).add (i.toNat * n)))) := fun a N ha => by
  cases A with
  | none => cases hA
  | some p => simp [execOp, ha.eval hx, ha.eval hy, Instr.indexAt, asIntOf, run_underlying hu, h0, h1, run_sizeOf hs, adr]
/-- an element of an array that is a value, of one cell -/
theorem R_index {len e : Nat} {cs : Array Value} {k : IntKind} {i : Int} {v : Value} (hu : P.underlying t = some (.array len e)) (hs : sz P e = some 1) (he : aggB P e = some false) (hx : ev E x = some (.agg cs)) (hy : ev E y = some (.int k i)) (h0 : 0 ≤ i) (h1 : i < (len : Int)) (hv : cs[i.toNat]? = some v) :
    Runs P w E ⟨dst, .index t x y, ty, pos, after, guard⟩ v := fun a N ha => by
  simp [execOp, ha.eval hx, ha.eval hy, Instr.index, asIntOf, run_underlying hu, h0, h1, run_sizeOf hs, part, run_isAgg he, hv]
theorem R_indexN {len e n : Nat} {cs : Array Value} {k : IntKind} {i : Int} (hu : P.underlying t = some (.array len e)) (hs : sz P e = some n) (he : aggB P e = some true) (hx : ev E x = some (.agg cs)) (hy : ev E y = some (.int k i)) (h0 : 0 ≤ i) (h1 : i < (len : Int)) :
    Runs P w E ⟨dst, .index t x y, ty, pos, after, guard⟩ (.agg (cs.extract (i.toNat * n) (i.toNat * n + n))) := fun a N ha => by
  simp [execOp, ha.eval hx, ha.eval hy, Instr.index, asIntOf, run_underlying hu, h0, h1, run_sizeOf hs, part, run_isAgg he]
theorem R_indexStr {s : ByteArray} {k : IntKind} {i : Int} {b : UInt8} (hu : P.underlying t = some .string) (hx : ev E x = some (.string s)) (hy : ev E y = some (.int k i)) (h0 : 0 ≤ i) (hb : s[i.toNat]? = some b) :
    Runs P w E ⟨dst, .index t x y, ty, pos, after, guard⟩ (vb b) := fun a N ha => by
  simp [execOp, ha.eval hx, ha.eval hy, Instr.index, asIntOf, run_underlying hu, h0, hb]
theorem R_field {s f o tf : Nat} {cs : Array Value} {v : Value} (hf : fldB P s f = some (o, tf)) (he : aggB P tf = some false) (hx : ev E x = some (.agg cs)) (hv : cs[o]? = some v) : Runs P w E ⟨dst, .field s x f, ty, pos, after, guard⟩ v := fun a N ha => by
  unfold fldB at hf
  split at hf
  · rename_i fs hu
    cases hfl : fs[f]? with
    | none => rw [hfl] at hf; cases hf
    | some fl =>
      rw [hfl] at hf
      simp at hf
      obtain ⟨rfl, rfl⟩ := hf
      simp [execOp, ha.eval hx, Instr.field, run_underlying hu, hfl, part, run_isAgg he, asAgg, hv]
  · cases hf
theorem R_fieldN {s f o tf n : Nat} {cs : Array Value} (hf : fldB P s f = some (o, tf)) (hs : sz P tf = some n) (he : aggB P tf = some true) (hx : ev E x = some (.agg cs)) : Runs P w E ⟨dst, .field s x f, ty, pos, after, guard⟩ (.agg (cs.extract o (o + n))) := fun a N ha => by
  unfold fldB at hf
  split at hf
  · rename_i fs hu
    cases hfl : fs[f]? with
    | none => rw [hfl] at hf; cases hf
    | some fl =>
      rw [hfl] at hf
      simp at hf
      obtain ⟨rfl, rfl⟩ := hf
      simp [execOp, ha.eval hx, Instr.field, run_underlying hu, hfl, part, run_isAgg he, asAgg, run_sizeOf hs]
  · cases hf
end
end Go.Sx
