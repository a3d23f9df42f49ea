/- PLAIN: bytes in a block of their own; disks. -/
import Derived.Test.YtijckogioombdaaSx14
set_option linter.unusedVariables false
set_option linter.unusedSimpArgs false
namespace Go.Sx
open Go
/-- a file's bytes lie in a block of their own, from block B on -/
def Fil (w : World) (B : Nat → Prop) (A : Option Addr) (r : List UInt8) : Prop :=
  (A = none ∧ r = []) ∨ ∃ g o cs, A = some ⟨g, o, none⟩ ∧ B g ∧ Blk w g 5 cs ∧ (cs.drop o).take r.length = r.map vb
section
variable {w w' : World} {B : Nat → Prop} {d : Nat} {A : Option Addr} {r : List UInt8} {M : List Nat}
theorem Fil.rd (h : Fil w B A r) : Rd w A (r.map vb) := by
  rcases h with ⟨rfl, rfl⟩ | ⟨g, o, cs, rfl, _, hB, hr⟩
  · exact Rd.nil _ _
  · rw [← hr]; exact Rd.ofBlk hB o _
theorem Fil.fr (h : Fil w B A r) (hf : Fr M w w') (hM : ∀ i ∈ M, ¬ B i ∨ ∃ t cs, t ≠ 5 ∧ Blk w i t cs) : Fil w' B A r := by
  rcases h with ⟨rfl, rfl⟩ | ⟨g, o, cs, rfl, hb, hB, hr⟩
  · exact .inl ⟨rfl, rfl⟩
  · refine .inr ⟨g, o, cs, rfl, hb, hB.fr hf fun hm => ?_, hr⟩
    rcases hM g hm with h | ⟨t', cs', ht, h⟩
    · exact h hb
    · exact (h.ne hB ht) rfl
theorem Fil.ofOwn {N n c : Nat} (h : Own w N 5 1 A n c (r.map vb)) (hN : ∀ i, N ≤ i → B i) : Fil w B A r := by
  rcases h.form with ⟨rfl, _, _, hx⟩ | ⟨g, cur, rfl, hb, hB, _, _, _, h5⟩
  · exact .inl ⟨rfl, by simpa using hx⟩
  · have hl := h.len
    refine .inr ⟨g, 0, cur, rfl, hN _ hb, hB, ?_⟩
    rw [List.drop_zero, ← h5]
    congr 1
    simpa using hl
theorem Fil.le (h : Fil w B A r) {B' : Nat → Prop} (hb : ∀ i, i < w.heap.size → B i → B' i) : Fil w B' A r := by
  rcases h with h | ⟨g, o, cs, h1, h2, h3⟩
  · exact .inl h
  · exact .inr ⟨g, o, cs, h1, hb _ h3.1.lt h2, h3⟩
end
theorem own_cap {w : World} {B n c e size : Nat} {A : Option Addr} {xs : List Value} (h : Own w B e size A n c xs) : n ≤ c := by
  rcases h.form with ⟨_, rfl, _, _⟩ | ⟨g, cur, rfl, _, _, h1, _⟩
  · omega
  · exact h1
/-- a disk -/
structure Dk where
  F : List (List UInt8)
  room : Nat
  off : Bool
  armed : Bool
  left : Nat
def Dk.used (D : Dk) : Nat := (D.F.map List.length).sum
def Dk.able (D : Dk) (f : Int) : Int := if D.off then 50 else if f < 0 ∨ 3 ≤ f then 51 else 0
def Dk.burnN (D : Dk) (n : Nat) : Nat := if D.armed then (if n < D.left then n else D.left) else n
def Dk.burnD (D : Dk) (n : Nat) : Dk := if D.armed then (if n < D.left then { D with left := D.left - n } else { D with off := true, armed := false, left := 0 }) else D
def Dk.done (D : Dk) : Int := if D.off then 50 else 0
def Dk.put (D : Dk) (i : Nat) (b : List UInt8) : Dk := { D with F := D.F.set i b }
def Dk.append (D : Dk) (f : Int) (b : List UInt8) : Int × Dk :=
  if D.able f ≠ 0 then (D.able f, D) else if D.room - D.used < b.length then (7, D) else
    let D2 := (D.burnD b.length).put f.toNat (D.F.getD f.toNat [] ++ b.take (D.burnN b.length)); (D2.done, D2)
def Dk.wipe (D : Dk) (f : Int) : Int × Dk :=
  if D.able f ≠ 0 then (D.able f, D) else
    let D2 := if D.burnN 1 = 1 then (D.burnD 1).put f.toNat [] else D.burnD 1; (D2.done, D2)
def Dk.crash (D : Dk) : Int × Dk := if D.off then (50, D) else (0, { D with off := true, armed := false, left := 0 })
def Dk.arm (D : Dk) (n : Int) : Int × Dk := if D.off then (50, D) else if n < 1 then (1, D) else (0, { D with armed := true, left := n.toNat })
def Dk.disarm (D : Dk) : Int × Dk := if D.off then (50, D) else (0, { D with armed := false, left := 0 })
def Dk.start (D : Dk) : Int × Dk := (0, { D with off := false })
structure Do where
  op : Int
  file : Int
  n : Int
  b : List UInt8
def opOf (k : Int) : Nat := (BitVec.ofInt 64 k).toNat % 9
def Dk.does (D : Dk) (k : Do) : Int × Dk :=
  if opOf k.op = 4 then D.wipe k.file else if opOf k.op = 5 then D.crash else if opOf k.op = 6 then D.start else if opOf k.op = 7 then D.arm k.n else if opOf k.op = 8 then D.disarm else D.append k.file k.b
def Dk.new (room : Nat) : Dk := ⟨[[], [], []], room, false, false, 0⟩
/-- its cells -/
def dkC (ps : List (Option Addr × Nat)) (F : List (List UInt8)) (room : Nat) (off armed : Bool) (left : Nat) : List Value :=
  ((List.zip ps F).map fun p => .slice p.1.1 p.2.length p.1.2) ++ [vi room, .bool off, .bool armed, vi left]
structure DkOk (D : Dk) : Prop where
  three : D.F.length = 3
  used : D.used ≤ D.room
  room : D.room ≤ 16777216
  one : 1 ≤ D.room
  left : D.left < 9223372036854775808
def Dsk (w : World) (B : Nat → Prop) (d : Nat) (D : Dk) : Prop :=
  ∃ ps, Blk w d 40 (dkC ps D.F D.room D.off D.armed D.left) ∧ ps.length = 3 ∧ True ∧ (∀ i, i < 3 → Fil w B (ps.getD i (none, 0)).1 (D.F.getD i []) ∧ (D.F.getD i []).length ≤ (ps.getD i (none, 0)).2) ∧ DkOk D
section
variable {ps : List (Option Addr × Nat)} {F : List (List UInt8)} (hp : ps.length = 3) (hF : F.length = 3) (room : Nat) (off armed : Bool) (left : Nat)
theorem zip3 {ps : List (Option Addr × Nat)} {F : List (List UInt8)} (hp : ps.length = 3) (hF : F.length = 3) : ((List.zip ps F).map fun p => (.slice p.1.1 p.2.length p.1.2 : Value)).length = 3 := by simp [hp, hF]
end
section
variable {ps : List (Option Addr × Nat)} {F : List (List UInt8)} {room : Nat} {off armed : Bool} {left : Nat}
theorem dkC_len (hp : ps.length = 3) (hF : F.length = 3) : (dkC ps F room off armed left).length = 7 := by simp [dkC, hp, hF]
theorem dkC_3 (hp : ps.length = 3) (hF : F.length = 3) : (dkC ps F room off armed left)[3]? = some (vi room) := by simp [dkC, List.getElem?_append, hp, hF]
theorem dkC_4 (hp : ps.length = 3) (hF : F.length = 3) : (dkC ps F room off armed left)[4]? = some (.bool off) := by simp [dkC, List.getElem?_append, hp, hF]
theorem dkC_5 (hp : ps.length = 3) (hF : F.length = 3) : (dkC ps F room off armed left)[5]? = some (.bool armed) := by simp [dkC, List.getElem?_append, hp, hF]
theorem dkC_6 (hp : ps.length = 3) (hF : F.length = 3) : (dkC ps F room off armed left)[6]? = some (vi left) := by simp [dkC, List.getElem?_append, hp, hF]
theorem dkC_f (hp : ps.length = 3) (hF : F.length = 3) {i : Nat} (hi : i < 3) : (dkC ps F room off armed left)[0 + 0 + (i : Int).toNat * 1]? = some (.slice (ps.getD i (none, 0)).1 (F.getD i []).length (ps.getD i (none, 0)).2) := by
  have h1 : i < ((List.zip ps F).map fun p => (.slice p.1.1 p.2.length p.1.2 : Value)).length := by rw [zip3 hp hF]; exact hi
  have h2 : 0 + 0 + (i : Int).toNat * 1 = i := by simp
  rw [h2, dkC, List.getElem?_append_left h1]
  simp [List.getElem?_map, List.getElem?_zip_eq_some, List.getD_eq_getElem?_getD, hp, hF, hi]
theorem dkC_fa (hp : ps.length = 3) (hF : F.length = 3) {i : Nat} (hi : i < 3) : ((((dkC ps F room off armed left).drop 0).take 3).toArray)[(i : Int).toNat]? = some (.slice (ps.getD i (none, 0)).1 (F.getD i []).length (ps.getD i (none, 0)).2) := by
  have := dkC_f (room := room) (off := off) (armed := armed) (left := left) hp hF hi
  simp [List.getElem?_take, hi] at this ⊢
  exact this
theorem dkC_s4 (hp : ps.length = 3) (hF : F.length = 3) (x : Bool) : (dkC ps F room off armed left).set (0 + 4) (.bool x) = dkC ps F room x armed left := by simp [dkC, List.set_append, hp, hF]
theorem dkC_s5 (hp : ps.length = 3) (hF : F.length = 3) (x : Bool) : (dkC ps F room off armed left).set (0 + 5) (.bool x) = dkC ps F room off x left := by simp [dkC, List.set_append, hp, hF]
theorem dkC_s6 (hp : ps.length = 3) (hF : F.length = 3) (x : Nat) : (dkC ps F room off armed left).set (0 + 6) (vi x) = dkC ps F room off armed x := by simp [dkC, List.set_append, hp, hF]
theorem dkC_sf (hp : ps.length = 3) (hF : F.length = 3) {i : Nat} (hi : i < 3) (A : Option Addr) (c : Nat) (b : List UInt8) : (dkC ps F room off armed left).set (0 + 0 + (i : Int).toNat * 1) (.slice A b.length c) = dkC (ps.set i (A, c)) (F.set i b) room off armed left := by
  have h2 : 0 + 0 + (i : Int).toNat * 1 = i := by simp
  rw [h2, dkC, dkC, List.set_append_left _ _ (by rw [zip3 hp hF]; exact hi)]
  congr 1
  match ps, F, hp, hF with
  | [p0, p1, p2], [f0, f1, f2], _, _ =>
    match i, hi with
    | 0, _ | 1, _ | 2, _ => rfl
end
end Go.Sx

namespace Go.Sx
open Go
theorem Dsk.fr {w w' : World} {B : Nat → Prop} {d : Nat} {D : Dk} {M : List Nat} (h : Dsk w B d D) (hf : Fr M w w') (hM : ∀ i ∈ M, i ≠ d ∧ (¬ B i ∨ ∃ t cs, t ≠ 5 ∧ Blk w i t cs)) : Dsk w' B d D := by
  obtain ⟨ps, h1, h2, h3, h4, h5⟩ := h
  exact ⟨ps, h1.fr hf (fun hm => (hM d hm).1 rfl), h2, h3, fun i hi => ⟨(h4 i hi).1.fr hf fun j hj => (hM j hj).2, (h4 i hi).2⟩, h5⟩
theorem Dsk.fr0 {w w' : World} {B : Nat → Prop} {d : Nat} {D : Dk} (h : Dsk w B d D) (hf : Fr [] w w') : Dsk w' B d D := h.fr hf (by simp)
theorem Dsk.lt {w : World} {B : Nat → Prop} {d : Nat} {D : Dk} (h : Dsk w B d D) : d < w.heap.size := by obtain ⟨ps, h1, _⟩ := h; exact h1.lt
theorem Dsk.ok {w : World} {B : Nat → Prop} {d : Nat} {D : Dk} (h : Dsk w B d D) : DkOk D := by obtain ⟨ps, h1, h2, h3, h4, h5⟩ := h; exact h5
theorem Dsk.le {w : World} {B B' : Nat → Prop} {d : Nat} {D : Dk} (h : Dsk w B d D) (hb : ∀ i, i < w.heap.size → B i → B' i) : Dsk w B' d D := by
  obtain ⟨ps, h1, h2, h3, h4, h5⟩ := h
  exact ⟨ps, h1, h2, trivial, fun i hi => ⟨(h4 i hi).1.le hb, (h4 i hi).2⟩, h5⟩
theorem Dsk.name {w : World} {B : Nat → Prop} {d : Nat} {D : Dk} (h : Dsk w B d D) : ∃ B', B' = B ∧ Dsk w B' d D := ⟨B, rfl, h⟩
theorem Dsk.blk {w : World} {B : Nat → Prop} {d : Nat} {D : Dk} (h : Dsk w B d D) : ∃ cs, Blk w d 40 cs := by obtain ⟨ps, h1, _⟩ := h; exact ⟨_, h1⟩
theorem one40 {w : World} {B : Nat → Prop} {b : Nat} (h : ∃ cs, Blk w b 40 cs) : ∀ i ∈ [b], ¬ B i ∨ ∃ t cs, t ≠ 5 ∧ Blk w i t cs := by
  intro i hi
  rw [List.mem_singleton] at hi
  subst hi
  exact .inr ⟨40, h.elim fun cs h => ⟨cs, by decide, h⟩⟩
theorem skDsk {w : World} {B B' : Nat → Prop} {d d' : Nat} {D' : Dk} (hne : d' ≠ d) (h : Dsk w B' d' D') : ∀ i ∈ [d'], i ≠ d ∧ (¬ B i ∨ ∃ t cs, t ≠ 5 ∧ Blk w i t cs) := by
  intro i hi
  obtain ⟨cs, hb⟩ := h.blk
  refine ⟨by rw [List.mem_singleton] at hi; omega, one40 (B := B) ⟨cs, hb⟩ i hi⟩
theorem skOne {w : World} {B : Nat → Prop} {d b t : Nat} {cs : List Value} (hne : b ≠ d) (h : Blk w b t cs) (ht : t ≠ 5) : ∀ i ∈ [b], i ≠ d ∧ (¬ B i ∨ ∃ t cs, t ≠ 5 ∧ Blk w i t cs) := by
  intro i hi
  rw [List.mem_singleton] at hi
  subst hi
  exact ⟨hne, .inr ⟨t, cs, ht, h⟩⟩
end Go.Sx
namespace Go.Sx
open Go
def usedTo (F : List (List UInt8)) : Nat → Nat
  | 0 => 0
  | i + 1 => usedTo F i + (F.getD i []).length
theorem used_three {D : Dk} (h : D.F.length = 3) : D.used = usedTo D.F 3 := by
  unfold Dk.used
  match D.F, h with
  | [f0, f1, f2], _ => simp [usedTo]; omega
theorem used_le {D : Dk} (h : D.F.length = 3) {i : Nat} (hi : i < 3) : usedTo D.F i + (D.F.getD i []).length ≤ D.used := by
  rw [used_three h]
  have h3 : usedTo D.F 3 = 0 + (D.F.getD 0 []).length + (D.F.getD 1 []).length + (D.F.getD 2 []).length := rfl
  rw [h3]
  have hc : i = 0 ∨ i = 1 ∨ i = 2 := by omega
  rcases hc with rfl | rfl | rfl
  · show 0 + _ ≤ _; omega
  · show 0 + (D.F.getD 0 []).length + _ ≤ _; omega
  · show 0 + (D.F.getD 0 []).length + (D.F.getD 1 []).length + _ ≤ _; omega
theorem len_used {D : Dk} (h : D.F.length = 3) {i : Nat} (hi : i < 3) : (D.F.getD i []).length ≤ D.used := by
  have := used_le h hi; omega
/-- the files, as they are carried -/
def Fils (w : World) (B : Nat → Prop) (ps : List (Option Addr × Nat)) (F : List (List UInt8)) : Prop :=
  True ∧ ∀ i, i < 3 → Fil w B (ps.getD i (none, 0)).1 (F.getD i []) ∧ (F.getD i []).length ≤ (ps.getD i (none, 0)).2
theorem Fils.mk {w : World} {B : Nat → Prop} {ps : List (Option Addr × Nat)} {F : List (List UInt8)} (h : ∀ i, i < 3 → Fil w B (ps.getD i (none, 0)).1 (F.getD i []) ∧ (F.getD i []).length ≤ (ps.getD i (none, 0)).2) : Fils w B ps F := ⟨trivial, h⟩
theorem Fils.fr {w w' : World} {B : Nat → Prop} {ps : List (Option Addr × Nat)} {F : List (List UInt8)} {M : List Nat} (h : Fils w B ps F) (hf : Fr M w w') (hM : ∀ i ∈ M, ¬ B i ∨ ∃ t cs, t ≠ 5 ∧ Blk w i t cs) : Fils w' B ps F :=
  ⟨trivial, fun i hi => ⟨(h.2 i hi).1.fr hf hM, (h.2 i hi).2⟩⟩
theorem Fils.fr0 {w w' : World} {B : Nat → Prop} {ps : List (Option Addr × Nat)} {F : List (List UInt8)} (h : Fils w B ps F) (hf : Fr [] w w') : Fils w' B ps F := h.fr hf (by simp)
end Go.Sx
namespace Go.Sx
open Go
/-- bytes that are read, and lie in none of the blocks M -/
def RdY (w : World) (M : List Nat) (A : Option Addr) (bs : List UInt8) : Prop := bs = [] ∨ (Rd w A (bs.map vb) ∧ Off A M)
theorem RdY.rd {w : World} {M : List Nat} {A : Option Addr} {bs : List UInt8} (h : RdY w M A bs) : Rd w A (bs.map vb) := by
  rcases h with rfl | h
  · exact Rd.nil _ _
  · exact h.1
theorem RdY.fr {w w' : World} {M : List Nat} {A : Option Addr} {bs : List UInt8} (h : RdY w M A bs) (hf : Fr M w w') (_ : True) : RdY w' M A bs := by
  rcases h with rfl | h
  · exact .inl rfl
  · exact .inr ⟨h.1.fr hf h.2, h.2⟩
theorem RdY.fr0 {w w' : World} {M : List Nat} {A : Option Addr} {bs : List UInt8} (h : RdY w M A bs) (hf : Fr [] w w') : RdY w' M A bs := by
  rcases h with rfl | h
  · exact .inl rfl
  · exact .inr ⟨h.1.fr0 hf, h.2⟩
theorem RdY.old {w w' : World} {A : Option Addr} {bs : List UInt8} {d : Nat} (h : Rd w A (bs.map vb)) (hf : Fr [] w w') (hd : w.heap.size ≤ d) : RdY w' [d] A bs := by
  cases bs with
  | nil => exact .inl rfl
  | cons b bs =>
    refine .inr ⟨h.fr0 hf, ?_⟩
    rintro a rfl hm
    have := Rd.lt (x := vb b) (xs := bs.map vb) h
    simp only [List.mem_singleton] at hm
    omega
theorem RdY.of {w : World} {A : Option Addr} {bs : List UInt8} {d n : Nat} (h : Rd w A (bs.map vb)) (ho : ∀ i ∈ blkOf A, i < n) (hd : n ≤ d) : RdY w [d] A bs := by
  refine .inr ⟨h, ?_⟩
  rintro a rfl hm
  have := ho a.block (by simp [blkOf])
  simp only [List.mem_singleton] at hm
  omega
section
variable {P : Program} {w : World} {E : Env} {dst : Option Nat} {ty : TypeId} {pos : String} {after : Array Edge} {guard : Option (Nat × Bool)} {x y s : Operand} {t t' : TypeId}
theorem R_appendFil {B : Nat → Prop} {n n2 bytes c2 : Nat} {A A2 : Option Addr} {tx : TypeId} {xs ys : List UInt8} (el : Elem P t 5 1 bytes) (hk : P.underlying tx = some (.slice 5)) (hs : ev E s = some (.slice A n n)) (hx : ev E x = some (.slice A2 n2 c2)) (hn : n = xs.length) (hn2 : n2 = ys.length) (hf : Fil w B A xs) (hR : Rd w A2 (ys.map vb))
    (hbytes : (xs.length + ys.length) * bytes ≤ 140737488355328) (hbase : ∀ i, w.heap.size ≤ i → B i) (hb1 : 1 ≤ bytes) :
    RunsTo P w E ⟨dst, .call { callee := .builtin .append, args := #[s, x], argTypes := #[t, tx] }, ty, pos, after, guard⟩ (fun u w' => ∃ A' c', u = .slice A' (xs ++ ys).length c' ∧ Fil w' B A' (xs ++ ys) ∧ (xs ++ ys).length ≤ c' ∧ Fr [] w w') := by
  subst hn hn2
  have h63 : xs.length + ys.length ≤ maxLen := by
    have := Nat.mul_le_mul_left (xs.length + ys.length) hb1
    simp only [maxLen]; omega
  have h := R_appendTight (dst := dst) (ty := ty) (pos := pos) (after := after) (guard := guard) (w := w) (B := w.heap.size) el hs hx hf.rd (by simp) (Src.ofRd hk (by decide) hR (by simp) allb) hbytes h63 (Nat.le_refl _)
  intro a N hA
  obtain ⟨v, w', ⟨A', c', h1, _, h3, h4⟩, h5⟩ := h a N hA
  have h6 : Fil w' B A' (xs ++ ys) ∧ (xs ++ ys).length ≤ c' := by
    rcases h4 with ⟨h0, rfl, rfl, rfl⟩ | ⟨_, hO⟩
    · have : ys = [] := List.eq_nil_of_length_eq_zero h0
      subst this
      simpa using hf
    · rw [← List.map_append] at hO
      exact ⟨Fil.ofOwn hO hbase, by rw [List.length_append]; exact own_cap hO⟩
  exact ⟨v, w', ⟨A', c', by rw [h1, List.length_append], h6.1, h6.2, h3⟩, h5⟩
end
theorem able_zero {D : Dk} {f : Int} (h : D.able f = 0) : ∃ i : Nat, f = (i : Int) ∧ i < 3 ∧ D.off = false := by
  unfold Dk.able at h
  cases ho : D.off with
  | true => rw [ho] at h; simp at h
  | false =>
    rw [ho] at h
    simp only [Bool.false_eq_true, if_false] at h
    split at h
    · cases h
    · exact ⟨f.toNat, by omega, by omega, rfl⟩
theorem burn_le (D : Dk) (n : Nat) : D.burnN n ≤ n := by
  unfold Dk.burnN; split
  · split <;> omega
  · omega
theorem burnD_F (D : Dk) (n : Nat) : (D.burnD n).F = D.F := by
  unfold Dk.burnD; split
  · split <;> rfl
  · rfl
theorem burnD_room (D : Dk) (n : Nat) : (D.burnD n).room = D.room := by
  unfold Dk.burnD; split
  · split <;> rfl
  · rfl
theorem used_put {D : Dk} (h : D.F.length = 3) {i : Nat} (hi : i < 3) (b : List UInt8) : (D.put i b).used + (D.F.getD i []).length = D.used + b.length := by
  unfold Dk.used Dk.put
  dsimp only
  match D.F, h with
  | [f0, f1, f2], _ =>
    match i, hi with
    | 0, _ => simp; omega
    | 1, _ => simp; omega
    | 2, _ => simp; omega
theorem put_ok {D : Dk} (h : DkOk D) {i : Nat} (hi : i < 3) {b : List UInt8} (hb : D.used + b.length ≤ D.room + (D.F.getD i []).length) : DkOk (D.put i b) :=
  ⟨by simpa [Dk.put] using h.three, by have := used_put h.three hi b; show (D.put i b).used ≤ D.room; omega, h.room, h.one, h.left⟩
/-- a file was set -/
theorem Fils.put {w : World} {B : Nat → Prop} {ps : List (Option Addr × Nat)} {F : List (List UInt8)} (h : Fils w B ps F) (hp : ps.length = 3) (hF : F.length = 3) {i : Nat} (hi : i < 3) {A : Option Addr} {c : Nat} {b : List UInt8} (hb : Fil w B A b) (hc : b.length ≤ c) : Fils w B (ps.set i (A, c)) (F.set i b) := by
  refine ⟨trivial, fun j hj => ?_⟩
  by_cases e : i = j
  · subst e
    simp [List.getD_eq_getElem?_getD, hp, hF, hi]
    exact ⟨hb, hc⟩
  · have := h.2 j hj
    simp only [List.getD_eq_getElem?_getD] at this ⊢
    rw [List.getElem?_set_ne e, List.getElem?_set_ne e]
    exact this
end Go.Sx
namespace Go.Sx
theorem burnD_used (D : Dk) (n : Nat) : (D.burnD n).used = D.used := by unfold Dk.used; rw [burnD_F]
theorem append_put {D : Dk} {b : List UInt8} {i : Nat} (hi : i < 3) (ho : D.off = false) (hb : b.length ≤ D.room - D.used) : D.append (i : Int) b = (((D.burnD b.length).put i (D.F.getD i [] ++ b.take (D.burnN b.length))).done, (D.burnD b.length).put i (D.F.getD i [] ++ b.take (D.burnN b.length))) := by
  have ha : D.able (i : Int) = 0 := by unfold Dk.able; rw [ho]; simp; omega
  unfold Dk.append
  rw [if_neg (by rw [ha]; simp), if_neg (by omega)]
  simp
end Go.Sx
namespace Go.Sx
open Go
theorem Fil.fr0 {w w' : World} {B : Nat → Prop} {A : Option Addr} {r : List UInt8} (h : Fil w B A r) (hf : Fr [] w w') : Fil w' B A r := h.fr hf (by simp)
theorem Fil.nil (w : World) (B : Nat → Prop) : Fil w B none [] := .inl ⟨rfl, rfl⟩
theorem new_ok {r : Nat} (h1 : 1 ≤ r) (h2 : r ≤ 16777216) : DkOk (Dk.new r) := ⟨rfl, Nat.zero_le _, h2, h1, by show 0 < _; decide⟩
theorem new_dsk {w : World} {B : Nat → Prop} {d r : Nat} (hB : Blk w d 40 [.slice none 0 0, .slice none 0 0, .slice none 0 0, vi r, .bool false, .bool false, vi 0]) (h1 : 1 ≤ r) (h2 : r ≤ 16777216) : Dsk w B d (Dk.new r) := by
  refine ⟨[(none, 0), (none, 0), (none, 0)], hB, rfl, trivial, fun i hi => ?_, new_ok h1 h2⟩
  match i, hi with
  | 0, _ | 1, _ | 2, _ => exact ⟨Fil.nil _ _, Nat.le_refl _⟩
theorem wipe_put {D : Dk} {i : Nat} (hi : i < 3) (ho : D.off = false) : D.wipe (i : Int) = if D.burnN 1 = 1 then (((D.burnD 1).put i []).done, (D.burnD 1).put i []) else ((D.burnD 1).done, D.burnD 1) := by
  have ha : D.able (i : Int) = 0 := by unfold Dk.able; rw [ho]; simp; omega
  unfold Dk.wipe
  rw [if_neg (by rw [ha]; simp)]
  split <;> rfl
end Go.Sx
namespace Go.Sx
open Go
theorem able0_off {D : Dk} (h : D.able 0 = 0) : D.off = false := by
  obtain ⟨i, _, _, h⟩ := able_zero h; exact h
theorem able0_on {D : Dk} (h : D.able 0 ≠ 0) : D.off = true ∧ D.able 0 = 50 := by
  unfold Dk.able at h ⊢
  cases ho : D.off with
  | true => exact ⟨rfl, by simp⟩
  | false => rw [ho] at h; simp at h
theorem able_in {D : Dk} {i : Nat} {f : Int} (hi : i < 3) (ho : D.off = false) (ef : f = (i : Int)) : D.able f = 0 := by
  subst ef
  unfold Dk.able; rw [ho]; simp; omega
theorem dkC_one (ps : List (Option Addr × Nat)) (F : List (List UInt8)) (room : Nat) (off armed : Bool) (left : Nat) : (dkC ps F room off armed left).all (·.oneCell') = true := by simp [dkC, Value.oneCell']
theorem all_cut7 {p : Value → Bool} {cs : List Value} (h : cs.all p = true) (o k : Nat) : ((cs.drop o).take k).all p = true := by
  rw [List.all_eq_true] at h ⊢
  intro x hx
  exact h x (List.mem_of_mem_drop (List.mem_of_mem_take hx))
theorem over_all7 {zs cs : List Value} {n : Nat} (hz : zs.length = n) (hc : cs.length = n) : over zs 0 ((cs.drop 0).take n) = cs := by
  rw [List.drop_zero, ← hc, List.take_length]
  simp only [over, List.take_zero, List.nil_append, Nat.zero_add]
  rw [List.drop_of_length_le (by omega), List.append_nil]
end Go.Sx
namespace Go.Sx
open Go
/-- a disk that no call made -/
def unK : List Value := [.slice none 0 0, .slice none 0 0, .slice none 0 0, vi 0, .bool false, .bool false, vi 0]
theorem unK_f {i : Nat} (hi : i < 3) : (((unK.drop 0).take 3).toArray)[(i : Int).toNat]? = some (.slice none 0 0) := by
  match i, hi with
  | 0, _ | 1, _ | 2, _ => rfl
def NobD (w : World) (p : Option Addr) : Prop := p = none ∨ ∃ d, p = some ⟨d, 0, none⟩ ∧ Blk w d 40 unK
theorem NobD.fr0 {w w' : World} {p : Option Addr} (h : NobD w p) (hf : Fr [] w w') : NobD w' p := by
  rcases h with rfl | ⟨d, rfl, hB⟩
  · exact .inl rfl
  · exact .inr ⟨d, rfl, hB.fr0 hf⟩
theorem nobD_two {w : World} {b d t : Nat} (h : Blk w b t [.pointer none, .pointer (some ⟨d, 0, none⟩)]) (hd : Blk w d 40 unK) {i : Nat} (hi : i < 2) :
    ∃ p, w.cell? ((adr (some ⟨b, 0, none⟩)).add ((i : Int).toNat * 1)) = some (.pointer p) ∧ NobD w p := by
  simp only [adr, Option.getD_some, add_flat, Nat.zero_add, Int.toNat_natCast, Nat.mul_one]
  match i, hi with
  | 0, _ => exact ⟨none, h.at_ rfl, .inl rfl⟩
  | 1, _ => exact ⟨_, h.at_ rfl, .inr ⟨d, rfl, hd⟩⟩
end Go.Sx
namespace Go.Sx
open Go
theorem Dsk.frNew {w w1 w2 : World} {B : Nat → Prop} {d b : Nat} {D : Dk} (h : Dsk w B d D) (hf : Fr [] w w1) (hg : Fr [b] w1 w2) (hb : w.heap.size ≤ b) : Dsk w2 B d D :=
  h.fr0 (hf.then hg (by simp only [List.mem_singleton]; intro i hi hj; omega))
/-- the example's disk -/
def exE1 : Dk := ((Dk.new 100).append 0 [97, 98]).2
def exE2 : Dk := (exE1.arm 1).2
def exE3 : Dk := (exE2.append 0 [99, 100]).2
def exE4 : Dk := exE3.start.2
end Go.Sx

namespace Go.Sx
open Go
theorem Dsk.any {w : World} {B : Nat → Prop} {d : Nat} {D : Dk} (h : Dsk w B d D) : Dsk w (fun _ => True) d D := h.le fun _ _ _ => trivial
/-- it avoids what is new -/
theorem Dsk.avoid {w : World} {B : Nat → Prop} {d : Nat} {D : Dk} (h : Dsk w B d D) {M : List Nat} (hM : ∀ i ∈ M, w.heap.size ≤ i) : Dsk w (fun i => i ∉ M) d D := h.le fun i hi _ hm => by
  have := hM i hm; omega
/-! ### the document's disk -/
structure Rk where
  F : List (List UInt8)
  room : Nat
  off : Bool
  fuse : Nat
def Rk.able (R : Rk) (f : Int) : Int := if R.off then 50 else if f < 0 ∨ 2 < f then 51 else 0
def Rk.used (R : Rk) : Nat := (R.F.getD 0 []).length + (R.F.getD 1 []).length + (R.F.getD 2 []).length
def Rk.burn (R : Rk) : Rk := if R.fuse = 0 then R else { R with fuse := R.fuse - 1, off := R.off || R.fuse == 1 }
def Rk.put (R : Rk) (i : Nat) (b : List UInt8) : Rk := { R with F := R.F.set i b }
def Rk.done (R : Rk) : Int := if R.off then 50 else 0
def Rk.eat : Rk → List UInt8 → List UInt8 × Rk
  | R, [] => ([], R)
  | R, x :: xs => if R.off then ([], R) else (x :: (R.burn.eat xs).1, (R.burn.eat xs).2)
def Rk.append (R : Rk) (f : Int) (b : List UInt8) : Int × Rk :=
  if R.able f ≠ 0 then (R.able f, R) else if R.room < R.used + b.length then (7, R) else
    let R2 := (R.eat b).2.put f.toNat (R.F.getD f.toNat [] ++ (R.eat b).1); (R2.done, R2)
def Rk.wipe (R : Rk) (f : Int) : Int × Rk := if R.able f ≠ 0 then (R.able f, R) else let R2 := (R.put f.toNat []).burn; (R2.done, R2)
def Rk.crash (R : Rk) : Int × Rk := if R.off then (50, R) else (0, { R with off := true, fuse := 0 })
def Rk.arm (R : Rk) (n : Int) : Int × Rk := if R.off then (50, R) else if n < 1 then (1, R) else (0, { R with fuse := n.toNat })
def Rk.disarm (R : Rk) : Int × Rk := if R.off then (50, R) else (0, { R with fuse := 0 })
def rkC (ps : List (Option Addr × Nat)) (F : List (List UInt8)) (room : Nat) (off : Bool) (fuse : Nat) : List Value :=
  ((List.zip ps F).map fun p => .slice p.1.1 p.2.length p.1.2) ++ [vi room, .bool off, vi fuse]
def Rsk (w : World) (B : Nat → Prop) (d : Nat) (R : Rk) : Prop :=
  ∃ ps, Blk w d 58 (rkC ps R.F R.room R.off R.fuse) ∧ ps.length = 3 ∧ Fils w B ps R.F ∧ R.F.length = 3 ∧ R.used ≤ R.room ∧ R.room ≤ 16777216 ∧ R.fuse < 9223372036854775808
section
variable {ps : List (Option Addr × Nat)} {F : List (List UInt8)} {room : Nat} {off : Bool} {fuse : Nat}
theorem rkC_len (hp : ps.length = 3) (hF : F.length = 3) : (rkC ps F room off fuse).length = 6 := by simp [rkC, hp, hF]
theorem rkC_3 (hp : ps.length = 3) (hF : F.length = 3) : (rkC ps F room off fuse)[3]? = some (vi room) := by simp [rkC, List.getElem?_append, hp, hF]
theorem rkC_4 (hp : ps.length = 3) (hF : F.length = 3) : (rkC ps F room off fuse)[4]? = some (.bool off) := by simp [rkC, List.getElem?_append, hp, hF]
theorem rkC_5 (hp : ps.length = 3) (hF : F.length = 3) : (rkC ps F room off fuse)[5]? = some (vi fuse) := by simp [rkC, List.getElem?_append, hp, hF]
theorem rkC_f (hp : ps.length = 3) (hF : F.length = 3) {i : Nat} (hi : i < 3) : (rkC ps F room off fuse)[0 + 0 + (i : Int).toNat * 1]? = some (.slice (ps.getD i (none, 0)).1 (F.getD i []).length (ps.getD i (none, 0)).2) := by
  have h1 : i < ((List.zip ps F).map fun p => (.slice p.1.1 p.2.length p.1.2 : Value)).length := by rw [zip3 hp hF]; exact hi
  have h2 : 0 + 0 + (i : Int).toNat * 1 = i := by simp
  rw [h2, rkC, List.getElem?_append_left h1]
  simp [List.getElem?_map, List.getElem?_zip_eq_some, List.getD_eq_getElem?_getD, hp, hF, hi]
theorem rkC_s4 (hp : ps.length = 3) (hF : F.length = 3) (x : Bool) : (rkC ps F room off fuse).set (0 + 4) (.bool x) = rkC ps F room x fuse := by simp [rkC, List.set_append, hp, hF]
theorem rkC_s5 (hp : ps.length = 3) (hF : F.length = 3) (x : Nat) : (rkC ps F room off fuse).set (0 + 5) (vi x) = rkC ps F room off x := by simp [rkC, List.set_append, hp, hF]
theorem rkC_sf (hp : ps.length = 3) (hF : F.length = 3) {i : Nat} (hi : i < 3) (A : Option Addr) (c : Nat) (b : List UInt8) : (rkC ps F room off fuse).set (0 + 0 + (i : Int).toNat * 1) (.slice A b.length c) = rkC (ps.set i (A, c)) (F.set i b) room off fuse := by
  have h2 : 0 + 0 + (i : Int).toNat * 1 = i := by simp
  rw [h2, rkC, rkC, List.set_append_left _ _ (by rw [zip3 hp hF]; exact hi)]
  congr 1
  match ps, F, hp, hF with
  | [p0, p1, p2], [f0, f1, f2], _, _ =>
    match i, hi with
    | 0, _ | 1, _ | 2, _ => rfl
end
theorem Rsk.fr {w w' : World} {B : Nat → Prop} {d : Nat} {R : Rk} {M : List Nat} (h : Rsk w B d R) (hf : Fr M w w') (hM : ∀ i ∈ M, i ≠ d ∧ (¬ B i ∨ ∃ t cs, t ≠ 5 ∧ Blk w i t cs)) : Rsk w' B d R := by
  obtain ⟨ps, h1, h2, h4, h5⟩ := h
  exact ⟨ps, h1.fr hf (fun hm => (hM d hm).1 rfl), h2, h4.fr hf fun j hj => (hM j hj).2, h5⟩
theorem Rsk.fr0 {w w' : World} {B : Nat → Prop} {d : Nat} {R : Rk} (h : Rsk w B d R) (hf : Fr [] w w') : Rsk w' B d R := h.fr hf (by simp)
theorem one58 {w : World} {B : Nat → Prop} {b : Nat} (h : ∃ cs, Blk w b 58 cs) : ∀ i ∈ [b], ¬ B i ∨ ∃ t cs, t ≠ 5 ∧ Blk w i t cs := by
  intro i hi
  rw [List.mem_singleton] at hi
  subst hi
  exact .inr ⟨58, h.elim fun cs h => ⟨cs, by decide, h⟩⟩
end Go.Sx
namespace Go.Sx
open Go
theorem rable_zero {R : Rk} {f : Int} (h : R.able f = 0) : ∃ i : Nat, f = (i : Int) ∧ i < 3 ∧ R.off = false := by
  unfold Rk.able at h
  cases ho : R.off with
  | true => rw [ho] at h; simp at h
  | false =>
    rw [ho] at h
    simp only [Bool.false_eq_true, if_false] at h
    split at h
    · cases h
    · exact ⟨f.toNat, by omega, by omega, rfl⟩
theorem rused_set {F : List (List UInt8)} (h : F.length = 3) {i : Nat} (hi : i < 3) (b : List UInt8) :
    ((F.set i b).getD 0 []).length + ((F.set i b).getD 1 []).length + ((F.set i b).getD 2 []).length + (F.getD i []).length = (F.getD 0 []).length + (F.getD 1 []).length + (F.getD 2 []).length + b.length := by
  match F, h with
  | [f0, f1, f2], _ =>
    match i, hi with
    | 0, _ => simp; omega
    | 1, _ => simp; omega
    | 2, _ => simp; omega
theorem rput_used {R : Rk} (h : R.F.length = 3) {i : Nat} (hi : i < 3) (hu : R.used ≤ R.room) : (R.put i []).used ≤ (R.put i []).room := by
  have := rused_set h hi []
  unfold Rk.used at hu ⊢
  show ((R.F.set i []).getD 0 []).length + ((R.F.set i []).getD 1 []).length + ((R.F.set i []).getD 2 []).length ≤ R.room
  simp only [List.length_nil] at this
  omega
end Go.Sx
namespace Go.Sx
open Go
theorem Rsk.le {w : World} {B B' : Nat → Prop} {d : Nat} {R : Rk} (h : Rsk w B d R) (hb : ∀ i, i < w.heap.size → B i → B' i) : Rsk w B' d R := by
  obtain ⟨ps, h1, h2, h3, h4⟩ := h
  exact ⟨ps, h1, h2, ⟨trivial, fun i hi => ⟨(h3.2 i hi).1.le hb, (h3.2 i hi).2⟩⟩, h4⟩
theorem Rsk.lt {w : World} {B : Nat → Prop} {d : Nat} {R : Rk} (h : Rsk w B d R) : d < w.heap.size := by obtain ⟨ps, h1, _⟩ := h; exact h1.lt
theorem Rsk.three {w : World} {B : Nat → Prop} {d : Nat} {R : Rk} (h : Rsk w B d R) : R.F.length = 3 := by obtain ⟨ps, _, _, _, h, _⟩ := h; exact h
theorem Rsk.rooms {w : World} {B : Nat → Prop} {d : Nat} {R : Rk} (h : Rsk w B d R) : R.used ≤ R.room ∧ R.room ≤ 16777216 := by obtain ⟨ps, _, _, _, _, h, h2, _⟩ := h; exact ⟨h, h2⟩
theorem eat_stop {R : Rk} {l : List UInt8} (h : R.off = true ∨ l = []) : R.eat l = ([], R) := by
  cases l with
  | nil => rfl
  | cons x xs =>
    rcases h with h | h
    · unfold Rk.eat; rw [if_pos h]
    · cases h
theorem eat_go {R : Rk} {b : List UInt8} {i : Nat} (h : i < b.length) (ho : R.off = false) : R.eat (b.drop i) = (b.getD i 0 :: (R.burn.eat (b.drop (i + 1))).1, (R.burn.eat (b.drop (i + 1))).2) := by
  have e : b.getD i 0 = b[i] := by simp [List.getD_eq_getElem?_getD, h]
  rw [List.drop_eq_getElem_cons h, e]
  conv => lhs; unfold Rk.eat
  rw [ho]
  simp
theorem burn_F (R : Rk) : R.burn.F = R.F ∧ R.burn.room = R.room := by unfold Rk.burn; split <;> exact ⟨rfl, rfl⟩
theorem rput_used2 {R : Rk} (h : R.F.length = 3) {i : Nat} (hi : i < 3) {b : List UInt8} (hu : R.used + b.length ≤ R.room + (R.F.getD i []).length) : (R.put i b).used ≤ (R.put i b).room := by
  have := rused_set h hi b
  unfold Rk.used at hu ⊢
  show ((R.F.set i b).getD 0 []).length + ((R.F.set i b).getD 1 []).length + ((R.F.set i b).getD 2 []).length ≤ R.room
  omega
theorem rlen_used {R : Rk} {i : Nat} (hi : i < 3) : (R.F.getD i []).length ≤ R.used := by
  unfold Rk.used
  have hc : i = 0 ∨ i = 1 ∨ i = 2 := by omega
  rcases hc with rfl | rfl | rfl <;> omega
end Go.Sx
