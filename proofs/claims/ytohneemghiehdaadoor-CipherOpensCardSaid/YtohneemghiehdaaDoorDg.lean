/- PLAIN: a digest in memory. -/
import Derived.Test.YtohneemghiehdaaDoorSx10
import Derived.Test.YtohneemghiehdaaDoorBm
set_option linter.unusedVariables false
set_option linter.unusedSimpArgs false
namespace Go.Sx
open Go
/-- the bytes that wait lie in a block of their own -/
def RestIs (w : World) (B : Nat) (A : Option Addr) (r : List UInt8) : Prop :=
  (A = none ∧ r = []) ∨ ∃ g o cs, A = some ⟨g, o, none⟩ ∧ B ≤ g ∧ Blk w g 5 cs ∧ (cs.drop o).take r.length = r.map vb
def digC (h : List (BitVec 32)) (A : Option Addr) (n c : Nat) (m : Nat) : List Value := h.map w32 ++ [.slice A n c, w64 (BitVec.ofNat 64 m), .bool true]
/-- block d holds the digest D, from block B on -/
def Dig (w : World) (B d : Nat) (D : Bl.D) : Prop :=
  ∃ A c, Blk w d 71 (digC D.h A D.rest.length c D.n) ∧ D.h.length = 8 ∧ D.rest.length ≤ 64 ∧ B ≤ d ∧ RestIs w B A D.rest ∧ D.rest.length ≤ c
variable {w w' : World} {B d : Nat} {A : Option Addr} {r : List UInt8} {M : List Nat}
theorem RestIs.rd (h : RestIs w B A r) : Rd w A (r.map vb) := by
  rcases h with ⟨rfl, rfl⟩ | ⟨g, o, cs, rfl, _, hB, hr⟩
  · exact Rd.nil _ _
  · rw [← hr]; exact Rd.ofBlk hB o _
theorem RestIs.fr (h : RestIs w B A r) (hf : Fr M w w') (hM : ∀ i ∈ M, i < B ∨ ∃ t cs, t ≠ 5 ∧ Blk w i t cs) : RestIs w' B A r := by
  rcases h with ⟨rfl, rfl⟩ | ⟨g, o, cs, rfl, hb, hB, hr⟩
  · exact .inl ⟨rfl, rfl⟩
  · refine .inr ⟨g, o, cs, rfl, hb, hB.fr hf fun hm => ?_, hr⟩
    rcases hM g hm with h | ⟨t', cs', ht, h⟩
    · omega
    · exact (h.ne hB ht) rfl
theorem RestIs.ofOwn {n c : Nat} (h : Own w B 5 1 A n c (r.map vb)) : RestIs w B A r := by
  rcases h.form with ⟨rfl, _, _, hx⟩ | ⟨g, cur, rfl, hb, hB, _, _, _, h5⟩
  · exact .inl ⟨rfl, by simpa using hx⟩
  · have hl := h.len
    refine .inr ⟨g, 0, cur, rfl, hb, hB, ?_⟩
    rw [List.drop_zero, ← h5]
    congr 1
    simpa using hl
theorem Own.cap {B n c e size : Nat} {A : Option Addr} {xs : List Value} (h : Own w B e size A n c xs) : n ≤ c := by
  rcases h.form with ⟨_, rfl, _, _⟩ | ⟨g, cur, rfl, _, _, h1, _⟩
  · omega
  · exact h1
theorem RestIs.le (h : RestIs w B A r) {B' : Nat} (hb : B' ≤ B) : RestIs w B' A r := by
  rcases h with h | ⟨g, o, cs, h1, h2, h3⟩
  · exact .inl h
  · exact .inr ⟨g, o, cs, h1, Nat.le_trans hb h2, h3⟩
theorem Dig.fr {D : Bl.D} (h : Dig w B d D) (hf : Fr M w w') (hM : ∀ i ∈ M, i ≠ d ∧ (i < B ∨ ∃ t cs, t ≠ 5 ∧ Blk w i t cs)) : Dig w' B d D := by
  obtain ⟨A, c, h1, h2, h3, h4, h5, h6⟩ := h
  exact ⟨A, c, h1.fr hf (fun hm => (hM d hm).1 rfl), h2, h3, h4, h5.fr hf fun i hi => (hM i hi).2, h6⟩
theorem Dig.fr0 {D : Bl.D} (h : Dig w B d D) (hf : Fr [] w w') : Dig w' B d D := h.fr hf (by simp)
theorem Dig.le {D : Bl.D} (h : Dig w B d D) {B' : Nat} (hb : B' ≤ B) : Dig w B' d D := by
  obtain ⟨A, c, h1, h2, h3, h4, h5, h6⟩ := h
  exact ⟨A, c, h1, h2, h3, Nat.le_trans hb h4, h5.le hb, h6⟩
theorem Dig.lt {D : Bl.D} (h : Dig w B d D) : d < w.heap.size := by obtain ⟨A, c, h1, _⟩ := h; exact h1.lt
theorem first0_eq (k : Nat) : Bl.first0 k = Bl.first.set 0 (Bl.first.getD 0 0 ^^^ ((16842752#32 ^^^ BitVec.ofInt 32 (k : Int) <<< 8) ^^^ 32#32)) := by
  simp only [Bl.first0, BitVec.ofInt_natCast]; rfl
theorem pad_eq (key : List UInt8) : key.map vb ++ (List.replicate (64 - key.length) [(.int .u8 0 : Value)]).flatten = (Bl.padded key).map vb := by
  rw [Bl.padded, List.map_append, List.map_replicate]
  congr 1
  generalize 64 - key.length = n
  induction n with
  | zero => rfl
  | succ n ih => rw [List.replicate_succ, List.flatten_cons, ih, List.replicate_succ]; rfl
theorem Own.notin {B n c e size b t : Nat} {A : Option Addr} {xs cs : List Value} (h : Own w B e size A n c xs) (hB : Blk w b t cs) (hne : t ≠ e) : b ∉ blkOf A := by
  rcases h.form with ⟨rfl, _, _, _⟩ | ⟨g, cur, rfl, _, hg, _⟩
  · simp [blkOf]
  · simpa [blkOf] using hB.ne hg hne
theorem digC_len {h : List (BitVec 32)} (hh : h.length = 8) (A : Option Addr) (n c m : Nat) : (digC h A n c m).length = 11 := by simp [digC, hh]
theorem digC_rest {h : List (BitVec 32)} (hh : h.length = 8) (A A' : Option Addr) (n c n' c' m : Nat) : (digC h A n c m).set 8 (.slice A' n' c') = digC h A' n' c' m := by
  simp [digC, List.set_append, hh]
theorem digC_n {h : List (BitVec 32)} (hh : h.length = 8) (A : Option Addr) (n c m m' : Nat) : (digC h A n c m).set 9 (w64 (BitVec.ofNat 64 m')) = digC h A n c m' := by
  simp [digC, List.set_append, hh]
theorem first0_len (k : Nat) : (Bl.first0 k).length = 8 := by simp [Bl.first0, first_length]
theorem padded_len {key : List UInt8} (h : key.length ≤ 64) : (Bl.padded key).length = 64 := by simp [Bl.padded]; omega
theorem dig_begin0 {K : List UInt8} (hK : K = []) {A : Option Addr} (hB : Blk w d 71 (digC (Bl.first0 K.length) none 0 0 0)) (hd : B ≤ d) : Dig w B d (Bl.begin_ K) := by
  subst hK
  exact ⟨none, 0, hB, first0_len 0, by decide, hd, .inl ⟨rfl, rfl⟩, Nat.le_refl _⟩
theorem dig_begin {K : List UInt8} (hK : K ≠ []) (hl : K.length ≤ 32) {A : Option Addr} {c : Nat} (hB : Blk w d 71 (digC (Bl.first0 K.length) A 64 c 0)) (hd : B ≤ d) (hO : Own w B 5 1 A 64 c ((Bl.padded K).map vb)) : Dig w B d (Bl.begin_ K) := by
  have hr : (Bl.begin_ K).rest = Bl.padded K := by simp [Bl.begin_, hK]
  have hl' := padded_len (key := K) (by omega)
  refine ⟨A, c, ?_, first0_len _, by rw [hr]; omega, hd, by rw [hr]; exact RestIs.ofOwn hO, by rw [hr, hl']; exact hO.cap⟩
  rw [hr, hl']
  exact hB
end Go.Sx
namespace Go.Sx
open Go
theorem digC_get8 {h : List (BitVec 32)} (hh : h.length = 8) (A : Option Addr) (n c m : Nat) : (digC h A n c m)[8]? = some (.slice A n c) := by simp [digC, List.getElem?_append, hh]
theorem digC_get9 {h : List (BitVec 32)} (hh : h.length = 8) (A : Option Addr) (n c m : Nat) : (digC h A n c m)[9]? = some (w64 (BitVec.ofNat 64 m)) := by simp [digC, List.getElem?_append, hh]
theorem digC_get10 {h : List (BitVec 32)} (hh : h.length = 8) (A : Option Addr) (n c m : Nat) : (digC h A n c m)[10]? = some (.bool true) := by simp [digC, List.getElem?_append, hh]
theorem digC_one (h : List (BitVec 32)) (A : Option Addr) (n c m : Nat) : (digC h A n c m).all (·.oneCell') = true := by simp [digC, Value.oneCell']
theorem all_cut {p : Value → Bool} {cs : List Value} (h : cs.all p = true) (o k : Nat) : ((cs.drop o).take k).all p = true := by
  rw [List.all_eq_true] at h ⊢
  intro x hx
  exact h x (List.mem_of_mem_drop (List.mem_of_mem_take hx))
theorem over_whole {zs cs : List Value} {n : Nat} (hz : zs.length = n) (hc : cs.length = n) : over zs 0 ((cs.drop 0).take n) = cs := by
  rw [List.drop_zero, ← hc, List.take_length]
  simp only [over, List.take_zero, List.nil_append, Nat.zero_add]
  rw [List.drop_of_length_le (by omega), List.append_nil]
end Go.Sx
namespace Go.Sx
open Go
theorem RestIs.fr0 {w w' : World} {B : Nat} {A : Option Addr} {r : List UInt8} (h : RestIs w B A r) (hf : Fr [] w w') : RestIs w' B A r := h.fr hf (by simp)
end Go.Sx
namespace Go.Sx
open Go
theorem one39 {w : World} {B b : Nat} (h : ∃ cs, Blk w b 71 cs) : ∀ i ∈ [b], i < B ∨ ∃ t cs, t ≠ 5 ∧ Blk w i t cs := by
  intro i hi
  rw [List.mem_singleton] at hi
  subst hi
  exact .inr ⟨71, h.elim fun cs h => ⟨cs, by decide, h⟩⟩
end Go.Sx

namespace Go.Sx
open Go
/-- an other block was changed -/
theorem oneDig {w : World} {B d b t : Nat} {cs : List Value} (hne : b ≠ d) (h : Blk w b t cs) (ht : t ≠ 5) : ∀ i ∈ [b], i ≠ d ∧ (i < B ∨ ∃ t cs, t ≠ 5 ∧ Blk w i t cs) := by
  intro i hi
  rw [List.mem_singleton] at hi
  subst hi
  exact ⟨hne, .inr ⟨t, cs, ht, h⟩⟩
theorem Dig.blk {w : World} {B d : Nat} {D : Bl.D} (h : Dig w B d D) : ∃ cs, Blk w d 71 cs := by
  obtain ⟨A, c, h1, _⟩ := h
  exact ⟨_, h1⟩
theorem Dig.ge {w : World} {B d : Nat} {D : Bl.D} (h : Dig w B d D) : B ≤ d := by
  obtain ⟨A, c, h1, h2, h3, h4, _⟩ := h
  exact h4
/-- an other digest was changed -/
theorem digDig {w : World} {B B' d d' : Nat} {D' : Bl.D} (hne : d' ≠ d) (h : Dig w B' d' D') : ∀ i ∈ [d'], i ≠ d ∧ (i < B ∨ ∃ t cs, t ≠ 5 ∧ Blk w i t cs) := by
  intro i hi
  rw [List.mem_singleton] at hi
  subst hi
  obtain ⟨cs, hb⟩ := h.blk
  exact ⟨hne, .inr ⟨71, cs, by decide, hb⟩⟩
end Go.Sx

namespace Go.Sx
open Go
/-- a digest that no call made -/
def unC : List Value := List.replicate 8 (.int .u32 0) ++ [.slice none 0 0, .int .u64 0, .bool false]
end Go.Sx
namespace Go.Sx
open Go
/-- older blocks were changed -/
theorem digLow {w : World} {B d n : Nat} {A : Option Addr} (h : ∀ i ∈ blkOf A, i < n) (hd : n ≤ d) (hB : n ≤ B) : ∀ i ∈ blkOf A, i ≠ d ∧ (i < B ∨ ∃ t cs, t ≠ 5 ∧ Blk w i t cs) := fun i hi => by
  have := h i hi
  exact ⟨by omega, .inl (by omega)⟩
end Go.Sx
namespace Go.Sx
open Go
theorem Dig.name {w : World} {B d : Nat} {D : Bl.D} (h : Dig w B d D) : ∃ B', B' = B ∧ Dig w B' d D := ⟨B, rfl, h⟩
end Go.Sx
