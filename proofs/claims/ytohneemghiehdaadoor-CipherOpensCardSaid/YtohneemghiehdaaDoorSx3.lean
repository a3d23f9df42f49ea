/- SX, third part: memory: blocks known whole, slices that read, what a piece of code may have changed. -/
import Derived.Test.YtohneemghiehdaaDoorSx2
import Derived.Deep.Draws
import Derived.Deep.AppendSrc
import Derived.Maps.AppendAt
import Derived.Laws.AppendOwnNone
set_option linter.unusedVariables false
set_option linter.unusedSimpArgs false
namespace Go.Sx
open Go

abbrev vi (n : Int) : Value := .int .i64 n
abbrev vb (x : UInt8) : Value := .int .u8 (x.toNat : Int)
abbrev w32 (x : BitVec 32) : Value := .int .u32 (x.toNat : Int)
abbrev w64 (x : BitVec 64) : Value := .int .u64 (x.toNat : Int)

/-- a name for a term -/
theorem named {α : Type} (x : α) {G : Prop} (h : ∀ u, u = x → G) : G := h x rfl

theorem add_flat (b o n : Nat) : (⟨b, o, none⟩ : Addr).add n = ⟨b, o + n, none⟩ := by
  unfold Addr.add
  split
  · rename_i h; subst h; rfl
  · rfl

/-- block b is just the cells cs of element type t -/
def Blk (w : World) (b : Nat) (t : TypeId) (cs : List Value) : Prop := w.heap[b]? = some (.cells cs.toArray t (0, 0))

/-- but for the blocks of M all that was there is as it was -/
structure Fr (M : List Nat) (w w' : World) : Prop where
  os : w'.os = w.os
  tape : w'.tape = w.tape
  output : w'.output = w.output
  size : w.heap.size ≤ w'.heap.size
  block : ∀ k, k < w.heap.size → k ∉ M → w'.heap[k]? = w.heap[k]?

section
variable {w w' w2 : World} {M M' : List Nat} {b : Nat} {t : TypeId} {cs : List Value}

theorem Fr.refl (M : List Nat) (w : World) : Fr M w w := ⟨rfl, rfl, rfl, Nat.le_refl _, fun _ _ _ => rfl⟩
theorem Fr.trans (h : Fr M w w') (k : Fr M w' w2) : Fr M w w2 :=
  ⟨k.os.trans h.os, k.tape.trans h.tape, k.output.trans h.output, Nat.le_trans h.size k.size, fun i hi hn => (k.block i (Nat.lt_of_lt_of_le hi h.size) hn).trans (h.block i hi hn)⟩
/-- behind it blocks of M', each of them new or of M -/
theorem Fr.then (h : Fr M w w') (k : Fr M' w' w2) (hm : ∀ i ∈ M', i < w.heap.size → i ∈ M) : Fr M w w2 :=
  ⟨k.os.trans h.os, k.tape.trans h.tape, k.output.trans h.output, Nat.le_trans h.size k.size, fun i hi hn => (k.block i (Nat.lt_of_lt_of_le hi h.size) (fun hi' => hn (hm i hi' hi))).trans (h.block i hi hn)⟩
theorem Fr.mono (h : Fr M w w') (hm : ∀ i ∈ M, i < w.heap.size → i ∈ M') : Fr M' w w' := (Fr.refl M' w).then h hm
theorem Fr.then0 (h : Fr M w w') (k : Fr [] w' w2) : Fr M w w2 := h.then k (by simp)
theorem Fr.fr0 (h : Fr M w w') (k : Fr [] w' w2) : Fr M w w2 := h.then0 k
theorem Fr.drew (w : World) : Fr [] w w.drew := ⟨rfl, rfl, rfl, Nat.le_refl _, fun _ _ _ => rfl⟩
theorem Fr.drewN (w : World) (n : Nat) : Fr [] w (w.drewN n) := ⟨rfl, rfl, rfl, Nat.le_refl _, fun _ _ _ => rfl⟩
theorem Fr.alloc (w : World) (o : Obj) : Fr [] w (w.alloc o) := ⟨rfl, rfl, rfl, by simp, fun k hk _ => Go.RowKit.Below.heap_alloc w o k hk⟩
theorem Fr.setCell (w : World) (a : Addr) (v : Value) : Fr [a.block] w (w.setCell a v) :=
  ⟨rfl, rfl, rfl, by simp [World.setCell], fun k _ hn => Go.RowKit.Below.heap_setCell w a v k (by simpa using hn)⟩
theorem Fr.grown {row : Option Nat} (h : w.grownBy w' row) : Fr row.toList w w' := ⟨h.os, h.tape, h.output, h.size, fun k hk hn => h.block k hk (fun e => hn (by rw [← e]; simp))⟩
theorem Fr.below (h : Fr [] w w') : Go.RowKit.Below w.heap.size w w' := ⟨h.os, h.tape, h.output, h.size, fun k hk => h.block k hk (by simp)⟩
theorem Fr.ofBelow (h : Go.RowKit.Below w.heap.size w w') : Fr [] w w' := ⟨h.os, h.tape, h.output, h.size, fun k hk _ => h.block k hk⟩
theorem Fr.cell (h : Fr M w w') {a : Addr} {v : Value} (hc : w.cell? a = some v) (hn : a.block ∉ M) : w'.cell? a = some v :=
  (World.cell?_of_block (h.block a.block (World.block_lt_of_cell? w a hc) hn)).trans hc

theorem Blk.lt (h : Blk w b t cs) : b < w.heap.size := by
  rcases Nat.lt_or_ge b w.heap.size with hlt | hge
  · exact hlt
  · unfold Blk at h; rw [Array.getElem?_eq_none hge] at h; cases h
theorem Blk.cell (h : Blk w b t cs) (i : Nat) : w.cell? ⟨b, i, none⟩ = cs[i]? := by
  unfold Blk at h
  simp [World.cell?, h]
theorem Blk.at_ (h : Blk w b t cs) {i : Nat} {v : Value} (hi : cs[i]? = some v) : w.cell? ⟨b, i, none⟩ = some v := (h.cell i).trans hi
theorem Blk.free (h : Blk w b t cs) (i : Nat) : w.frozen? ⟨b, i, none⟩ = false := by
  unfold Blk at h
  simp [World.frozen?, h]
theorem Blk.new (w : World) (t : TypeId) (cs : List Value) : Blk (w.alloc (.cells cs.toArray t)) w.heap.size t cs := heap_alloc_new w _
theorem Blk.to {cs' : List Value} (h : Blk w b t cs) (e : cs = cs') : Blk w b t cs' := e ▸ h
theorem Blk.fr (h : Blk w b t cs) (hf : Fr M w w') (hn : b ∉ M) : Blk w' b t cs := (hf.block b h.lt hn).trans h
theorem Blk.fr0 (h : Blk w b t cs) (hf : Fr [] w w') : Blk w' b t cs := h.fr hf (by simp)
theorem Blk.set (h : Blk w b t cs) (i : Nat) (v : Value) : Blk (w.setCell ⟨b, i, none⟩ v) b t (cs.set i v) := by
  unfold Blk at h ⊢
  simp [World.setCell, Array.getElem?_modify, h]
theorem Blk.ne {b' : Nat} {t' : TypeId} {cs' : List Value} (h : Blk w b t cs) (h' : Blk w b' t' cs') (hne : t ≠ t') : b ≠ b' := by
  rintro rfl
  unfold Blk at h h'
  rw [h] at h'
  injection h' with h'
  injection h' with _ ht
  exact hne ht

/-- the address of a slice that has an element -/
def adr (A : Option Addr) : Addr := A.getD ⟨0, 0, none⟩

/-- A slice from A on reads as the cells xs. -/
def Rd (w : World) (A : Option Addr) (xs : List Value) : Prop := ∀ j v, xs[j]? = some v → A.isSome = true ∧ w.cell? ((adr A).add j) = some v
/-- it lies in none of these blocks -/
def Off (A : Option Addr) (M : List Nat) : Prop := ∀ a, A = some a → a.block ∉ M

theorem Off.nil (A : Option Addr) : Off A [] := fun _ _ => by simp
theorem block_add (a : Addr) (n : Nat) : (a.add n).block = a.block := by unfold Addr.add; split <;> rfl
theorem add_add (a : Addr) (i j : Nat) : (a.add i).add j = a.add (i + j) := by
  unfold Addr.add
  by_cases hi : i = 0 <;> by_cases hj : j = 0 <;> simp [hi, hj, Nat.add_assoc]

variable {A : Option Addr} {xs ys : List Value}
theorem Rd.nil (w : World) (A : Option Addr) : Rd w A [] := fun j v h => by simp at h
theorem Rd.fr (h : Rd w A xs) (hf : Fr M w w') (ho : Off A M) : Rd w' A xs := fun j v hj => by
  obtain ⟨h1, h2⟩ := h j v hj
  refine ⟨h1, hf.cell h2 ?_⟩
  rw [block_add]
  cases A with
  | none => cases h1
  | some a => exact ho a rfl
theorem Rd.fr0 (h : Rd w A xs) (hf : Fr [] w w') : Rd w' A xs := h.fr hf (Off.nil A)
theorem Rd.ofBlk (h : Blk w b t cs) (o n : Nat) : Rd w (some ⟨b, o, none⟩) ((cs.drop o).take n) := fun j v hj => by
  refine ⟨rfl, ?_⟩
  rw [List.getElem?_take] at hj
  split at hj
  · rw [List.getElem?_drop] at hj
    simp only [adr, Option.getD_some, add_flat]
    exact h.at_ hj
  · cases hj
theorem Rd.ofBlk0 (h : Blk w b t cs) : Rd w (some ⟨b, 0, none⟩) cs := fun j v hj => ⟨rfl, by simp only [adr, Option.getD_some, add_flat, Nat.zero_add]; exact h.at_ hj⟩
theorem Rd.take (h : Rd w A xs) (n : Nat) : Rd w A (xs.take n) := fun j v hj => by
  rw [List.getElem?_take] at hj
  split at hj
  · exact h j v hj
  · cases hj
theorem Rd.cut (h : Rd w A xs) (c : Prop) [Decidable c] (l : Nat) (hc : c → xs.length ≤ l) : Rd w (if c then A else A.map (·.add l)) (xs.drop l) := fun j v hj => by
  have hlt : j < (xs.drop l).length := (List.getElem?_eq_some_iff.1 hj).1
  rw [List.length_drop] at hlt
  rw [if_neg (fun h => by have := hc h; omega)]
  rw [List.getElem?_drop] at hj
  obtain ⟨h1, h2⟩ := h _ v hj
  cases A with
  | none => cases h1
  | some a =>
    refine ⟨rfl, ?_⟩
    simp only [adr, Option.map_some, Option.getD_some, add_add] at h2 ⊢
    exact h2
theorem Off.cut (h : Off A M) (c : Prop) [Decidable c] (l : Nat) : Off (if c then A else A.map (·.add l)) M := by
  intro a ha
  split at ha
  · exact h a ha
  · cases A with
    | none => cases ha
    | some x =>
      simp only [Option.map_some, Option.some.injEq] at ha
      subst ha
      rw [block_add]
      exact h x rfl
theorem Rd.cells {a : Addr} (h : Rd w (some a) xs) : ∀ j u, xs[j]? = some u → w.cell? (a.add j) = some u := fun j u hj => (h j u hj).2
end
end Go.Sx
