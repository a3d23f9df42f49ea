/- PLAIN: the disk and the document's disk go in step. -/
import Derived.Test.YtijckogioombdaaSy16
set_option linter.unusedVariables false
set_option linter.unusedSimpArgs false
namespace Go.Sx
open Go
def bytesOf (L : List Do) : Nat := (L.map fun k => k.b.length).sum
theorem bytesOf_app (L : List Do) (k : Do) : bytesOf (L ++ [k]) = bytesOf L + k.b.length := by simp [bytesOf]
theorem mem_bytes {L : List Do} {k : Do} (h : k ∈ L) : k.b.length ≤ bytesOf L := by
  unfold bytesOf
  induction L with
  | nil => cases h
  | cons a L ih =>
    rw [List.map_cons, List.sum_cons]
    rcases List.mem_cons.1 h with rfl | h
    · omega
    · have := ih h; omega
/-- in step -/
structure Step (D : Dk) (R : Rk) : Prop where
  F : R.F = D.F
  room : R.room = D.room
  off : R.off = D.off
  fuse : R.fuse = if D.armed then D.left else 0
  left : D.armed = true → 1 ≤ D.left
  quiet : D.off = true → D.armed = false
theorem Step.new (r : Nat) : Step (Dk.new r) ⟨[[], [], []], r, false, 0⟩ := ⟨rfl, rfl, rfl, rfl, (fun h => by cases h), fun h => by cases h⟩
theorem Step.able {D : Dk} {R : Rk} (h : Step D R) (f : Int) : R.able f = D.able f := by
  unfold Rk.able Dk.able
  rw [h.off]
  split
  · rfl
  · by_cases hf : f < 0 ∨ 2 < f
    · rw [if_pos hf, if_pos (by omega)]
    · rw [if_neg hf, if_neg (by omega)]
theorem Step.used {D : Dk} {R : Rk} (h : Step D R) (h3 : D.F.length = 3) : R.used = D.used := by
  rw [used_three h3]
  unfold Rk.used
  rw [h.F]
  simp [usedTo]
theorem Step.done {D : Dk} {R : Rk} (h : Step D R) : R.done = D.done := by unfold Rk.done Dk.done; rw [h.off]
theorem Step.put {D : Dk} {R : Rk} (h : Step D R) (i : Nat) (b : List UInt8) : Step (D.put i b) (R.put i b) :=
  ⟨by show R.F.set i b = D.F.set i b; rw [h.F], h.room, h.off, h.fuse, h.left, h.quiet⟩
theorem Step.crash {D : Dk} {R : Rk} (h : Step D R) : R.crash.1 = D.crash.1 ∧ Step D.crash.2 R.crash.2 := by
  unfold Rk.crash Dk.crash
  rw [h.off]
  split
  · exact ⟨rfl, h⟩
  · exact ⟨rfl, h.F, h.room, rfl, rfl, (fun h => by cases h), fun _ => rfl⟩
theorem Step.disarm {D : Dk} {R : Rk} (h : Step D R) : R.disarm.1 = D.disarm.1 ∧ Step D.disarm.2 R.disarm.2 := by
  unfold Rk.disarm Dk.disarm
  rw [h.off]
  split
  · exact ⟨rfl, h⟩
  · exact ⟨rfl, h.F, h.room, rfl, rfl, (fun h => by cases h), fun _ => rfl⟩
theorem Step.arm {D : Dk} {R : Rk} (h : Step D R) (n : Int) : (R.arm n).1 = (D.arm n).1 ∧ Step (D.arm n).2 (R.arm n).2 := by
  unfold Rk.arm Dk.arm
  rw [h.off]
  split
  · exact ⟨rfl, h⟩
  · rename_i ho
    split
    · exact ⟨rfl, h⟩
    · exact ⟨rfl, h.F, h.room, rfl, rfl, (fun _ => by show 1 ≤ n.toNat; omega), fun hx => absurd hx ho⟩
theorem Step.start {D : Dk} {R : Rk} (h : Step D R) : Step D.start.2 { R with off := false } := ⟨h.F, h.room, rfl, h.fuse, h.left, fun hx => by cases hx⟩
/-- one byte -/
theorem Step.burn1 {D : Dk} {R : Rk} (h : Step D R) (ho : D.off = false) : Step (D.burnD 1) R.burn ∧ D.burnN 1 = 1 := by
  have hf := h.fuse
  have hro : R.off = false := by rw [h.off, ho]
  cases ha : D.armed with
  | false =>
    rw [ha] at hf
    simp only [Bool.false_eq_true, if_false] at hf
    rw [Dk.burnD, Dk.burnN, ha, Rk.burn, if_pos hf]
    exact ⟨h, rfl⟩
  | true =>
    have hl := h.left ha
    rw [ha] at hf
    simp only [if_true] at hf
    rw [Dk.burnD, Dk.burnN, ha, Rk.burn, if_pos rfl, if_pos rfl, if_neg (show ¬ R.fuse = 0 by omega)]
    by_cases h1 : 1 < D.left
    · rw [if_pos h1, if_pos h1]
      refine ⟨⟨h.F, h.room, ?_, ?_, (fun _ => by show 1 ≤ D.left - 1; omega), fun hx => by rw [ho] at hx; cases hx⟩, rfl⟩
      · show (R.off || R.fuse == 1) = D.off
        rw [hro, ho, show (R.fuse == 1) = false by simp; omega]; rfl
      · show R.fuse - 1 = D.left - 1
        rw [hf]
    · rw [if_neg h1, if_neg h1]
      refine ⟨⟨h.F, h.room, ?_, ?_, (fun hx => by cases hx), fun _ => rfl⟩, by omega⟩
      · show (R.off || R.fuse == 1) = true
        rw [show (R.fuse == 1) = true by simp; omega, Bool.or_true]
      · show R.fuse - 1 = if false then 0 else 0
        simp; omega
theorem Step.wipe {D : Dk} {R : Rk} (h : Step D R) (f : Int) : (R.wipe f).1 = (D.wipe f).1 ∧ Step (D.wipe f).2 (R.wipe f).2 := by
  by_cases ha : D.able f = 0
  · obtain ⟨i, rfl, hi, ho⟩ := able_zero ha
    have hb := (h.put i []).burn1 ho
    have he : (D.put i []).burnD 1 = (D.burnD 1).put i [] := by
      unfold Dk.burnD Dk.put
      dsimp only
      split
      · split <;> rfl
      · rfl
    have hn := (h.burn1 ho).2
    rw [wipe_put hi ho, if_pos hn]
    unfold Rk.wipe
    rw [h.able, if_neg (by omega)]
    rw [he] at hb
    exact ⟨hb.1.done, hb.1⟩
  · unfold Rk.wipe Dk.wipe
    rw [h.able, if_pos ha, if_pos ha]
    exact ⟨rfl, h⟩
/-- many bytes -/
theorem Step.eats {b : List UInt8} : ∀ {D : Dk} {R : Rk}, Step D R → D.off = false → (R.eat b).1 = b.take (D.burnN b.length) ∧ Step (D.burnD b.length) (R.eat b).2 := by
  induction b with
  | nil =>
    intro D R h ho
    refine ⟨by simp [Rk.eat], ?_⟩
    show Step (D.burnD 0) R
    unfold Dk.burnD
    split
    · rename_i ha
      have := h.left ha
      rw [if_pos (show 0 < D.left by omega), Nat.sub_zero]
      exact h
    · exact h
  | cons x b ih =>
    intro D R h ho
    have hb := h.burn1 ho
    have hro : R.off = false := by rw [h.off, ho]
    have hE : R.eat (x :: b) = (x :: (R.burn.eat b).1, (R.burn.eat b).2) := by
      conv => lhs; unfold Rk.eat
      rw [hro]; rfl
    rw [hE]
    dsimp only
    by_cases hz : (D.burnD 1).off = true
    · have hs := eat_stop (R := R.burn) (l := b) (.inl (by rw [hb.1.off]; exact hz))
      rw [hs]
      have hq := hb.1
      have ha : D.armed = true ∧ ¬ 1 < D.left := by
        unfold Dk.burnD at hz
        split at hz
        · rename_i ha
          split at hz
          · rw [show ({ D with left := D.left - 1 } : Dk).off = D.off from rfl, ho] at hz; cases hz
          · rename_i h1; exact ⟨ha, h1⟩
        · rw [ho] at hz; cases hz
      have hl := h.left ha.1
      have hN : D.burnN (x :: b).length = 1 := by
        rw [Dk.burnN, if_pos ha.1, if_neg (by rw [List.length_cons]; omega)]; omega
      have hD : D.burnD (x :: b).length = D.burnD 1 := by
        rw [Dk.burnD, if_pos ha.1, if_neg (by rw [List.length_cons]; omega), Dk.burnD, if_pos ha.1, if_neg ha.2]
      rw [hN, hD]
      exact ⟨rfl, hq⟩
    · have hz' : (D.burnD 1).off = false := by simpa using hz
      obtain ⟨h1, h2⟩ := ih hb.1 hz'
      have key : D.burnN (x :: b).length = 1 + (D.burnD 1).burnN b.length ∧ D.burnD (x :: b).length = (D.burnD 1).burnD b.length := by
        rw [List.length_cons]
        cases ha : D.armed with
        | false =>
          have e : D.burnD 1 = D := by rw [Dk.burnD, ha]; rfl
          rw [e]
          constructor
          · rw [Dk.burnN, Dk.burnN, ha]; simp; omega
          · rw [Dk.burnD, Dk.burnD, ha]; rfl
        | true =>
          have hl1 : 1 < D.left := by
            have := h.left ha
            apply Classical.byContradiction
            intro hc
            rw [Dk.burnD, if_pos ha, if_neg hc] at hz'
            cases hz'
          have e : D.burnD 1 = { D with left := D.left - 1 } := by rw [Dk.burnD, if_pos ha, if_pos hl1]
          rw [e]
          by_cases hc : b.length + 1 < D.left
          · constructor
            · rw [Dk.burnN, if_pos ha, if_pos hc, Dk.burnN, if_pos (by exact ha), if_pos (by show b.length < D.left - 1; omega)]; omega
            · rw [Dk.burnD, if_pos ha, if_pos hc, Dk.burnD, if_pos (by exact ha), if_pos (by show b.length < D.left - 1; omega)]
              show _ = ({ D with left := D.left - 1 - b.length } : Dk)
              rw [show D.left - (b.length + 1) = D.left - 1 - b.length by omega]
          · constructor
            · rw [Dk.burnN, if_pos ha, if_neg hc, Dk.burnN, if_pos (by exact ha), if_neg (by show ¬ b.length < D.left - 1; omega)]
              show D.left = 1 + (D.left - 1); omega
            · rw [Dk.burnD, if_pos ha, if_neg hc, Dk.burnD, if_pos (by exact ha), if_neg (by show ¬ b.length < D.left - 1; omega)]
      rw [key.1, key.2, h1]
      refine ⟨?_, h2⟩
      rw [Nat.add_comm, List.take_succ_cons]
theorem Step.append {D : Dk} {R : Rk} (h : Step D R) (h3 : D.F.length = 3) (hu : D.used ≤ D.room) (f : Int) (b : List UInt8) : (R.append f b).1 = (D.append f b).1 ∧ Step (D.append f b).2 (R.append f b).2 := by
  unfold Rk.append Dk.append
  rw [h.able]
  by_cases ha : D.able f = 0
  · obtain ⟨i, rfl, hi, ho⟩ := able_zero ha
    rw [if_neg (show ¬ D.able (i : Int) ≠ 0 by omega), if_neg (show ¬ D.able (i : Int) ≠ 0 by omega), h.used h3, h.room]
    by_cases hf : D.room < D.used + b.length
    · rw [if_pos hf, if_pos (by omega)]
      exact ⟨rfl, h⟩
    · rw [if_neg hf, if_neg (by omega)]
      obtain ⟨h1, h2⟩ := h.eats (b := b) ho
      have hp := h2.put i (R.F.getD i [] ++ (R.eat b).1)
      dsimp only
      rw [Int.toNat_natCast]
      rw [h1, h.F] at hp
      rw [h1, h.F]
      exact ⟨hp.done, hp⟩
  · rw [if_pos ha, if_pos ha]
    exact ⟨rfl, h⟩
end Go.Sx

namespace Go.Sx
open Go
def Rk.does (R : Rk) (k : Do) : Int × Rk :=
  if opOf k.op = 4 then R.wipe k.file else if opOf k.op = 5 then R.crash else if opOf k.op = 6 then (0, { R with off := false }) else if opOf k.op = 7 then R.arm k.n else if opOf k.op = 8 then R.disarm else R.append k.file k.b
theorem Step.does {D : Dk} {R : Rk} (h : Step D R) (hok : DkOk D) (k : Do) : (R.does k).1 = (D.does k).1 ∧ Step (D.does k).2 (R.does k).2 := by
  unfold Rk.does Dk.does
  split
  · exact h.wipe k.file
  split
  · exact h.crash
  split
  · exact ⟨rfl, h.start⟩
  split
  · exact h.arm k.n
  split
  · exact h.disarm
  · exact h.append hok.three hok.used k.file k.b
theorem Dsk.old {w : World} {B : Nat → Prop} {d : Nat} {D : Dk} (h : Dsk w B d D) : Dsk w (fun i => i < w.heap.size) d D := h.le fun _ hi _ => hi
theorem Rsk.old {w : World} {B : Nat → Prop} {d : Nat} {R : Rk} (h : Rsk w B d R) : Rsk w (fun i => i < w.heap.size) d R := h.le fun _ hi _ => hi
theorem Rsk.any {w : World} {B : Nat → Prop} {d : Nat} {R : Rk} (h : Rsk w B d R) : Rsk w (fun _ => True) d R := h.le fun _ _ _ => trivial
theorem Rsk.blk {w : World} {B : Nat → Prop} {d : Nat} {R : Rk} (h : Rsk w B d R) : ∃ cs, Blk w d 58 cs := by obtain ⟨ps, h1, _⟩ := h; exact ⟨_, h1⟩
theorem skRsk {w : World} {B B' : Nat → Prop} {d d' : Nat} {R : Rk} (hne : d' ≠ d) (h : Rsk w B' d' R) : ∀ i ∈ [d'], i ≠ d ∧ (¬ B i ∨ ∃ t cs, t ≠ 5 ∧ Blk w i t cs) := by
  intro i hi
  obtain ⟨cs, hb⟩ := h.blk
  rw [List.mem_singleton] at hi
  subst hi
  exact ⟨hne, .inr ⟨58, cs, by decide, hb⟩⟩
/-- an own block that no file lies in is written to -/
theorem skAvoid {A : Option Addr} {w : World} {d : Nat} (h : d ∉ blkOf A) : ∀ i ∈ blkOf A, i ≠ d ∧ (¬ (fun i => i ∉ blkOf A) i ∨ ∃ t cs, t ≠ 5 ∧ Blk w i t cs) := fun i hi =>
  ⟨fun e => h (e ▸ hi), .inl fun hn => hn hi⟩
theorem RdY.own {w : World} {B c d : Nat} {A : Option Addr} {xs : List UInt8} (h : OwnB w B 5 A c xs) (hd : d ∉ blkOf A) : RdY w [d] A xs := .inr ⟨Own.rd h, fun a e hm => by
  subst e
  rw [List.mem_singleton] at hm
  exact hd (by simp [blkOf, hm])⟩
/-- what a Read shows -/
def Dk.shown (D : Dk) (f : Int) : List UInt8 := if D.able f = 0 then D.F.getD f.toNat [] else []
def Rk.shown (R : Rk) (f : Int) : List UInt8 := if R.able f = 0 then R.F.getD f.toNat [] else []
theorem Step.shown {D : Dk} {R : Rk} (h : Step D R) (f : Int) : R.shown f = D.shown f := by unfold Rk.shown Dk.shown; rw [h.able, h.F]
end Go.Sx

namespace Go.Sx
open Go
theorem over4_ {cs vs : List Value} (h : cs.length = vs.length) : over cs 0 vs = vs := by simp [over, h]
theorem shown_le {D : Dk} (h : DkOk D) (f : Int) : (D.shown f).length ≤ 16777216 := by
  unfold Dk.shown
  split
  · rename_i ha
    obtain ⟨i, rfl, hi, _⟩ := able_zero ha
    rw [Int.toNat_natCast]
    have := len_used h.three hi
    have := h.used
    have := h.room
    omega
  · simp
end Go.Sx

namespace Go.Sx
open Go
theorem rsk_start {w : World} {B : Nat → Prop} {d : Nat} {R R' : Rk} {ps : List (Option Addr × Nat)} (hB : Blk w d 58 (rkC ps R.F R.room false R.fuse)) (hp : ps.length = 3) (hfil : Fils w B ps R.F) (hT : R.F.length = 3) (hus : R.used ≤ R.room) (hrm : R.room ≤ 16777216) (hlf : R.fuse < 9223372036854775808) (e : R' = { R with off := false }) : Rsk w B d R' := by
  subst e
  exact ⟨ps, hB, hp, hfil, hT, hus, hrm, hlf⟩
end Go.Sx
