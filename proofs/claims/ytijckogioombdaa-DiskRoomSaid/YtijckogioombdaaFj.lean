/- PLAIN: what a disk has, as a list of slices; lists of calls. -/
import Derived.Test.YtijckogioombdaaSx16
set_option linter.unusedVariables false
set_option linter.unusedSimpArgs false
namespace Go.Sx
open Go
theorem over4_ {cs vs : List Value} (h : cs.length = vs.length) : over cs 0 vs = vs := by simp [over, h]
/-- calls, one behind the other -/
def runs (D : Dk) (L : List Do) : Dk := L.foldl (fun D k => (D.does k).2) D
theorem runs_app (D : Dk) (L : List Do) (k : Do) : runs D (L ++ [k]) = ((runs D L).does k).2 := by simp [runs, List.foldl_append]
/-- so many slices, and nil -/
def flC (ps : List (Option Addr × Nat)) (F : List (List UInt8)) : List Value :=
  ((List.zip ps F).map fun p => .slice p.1.1 p.2.length p.1.2) ++ List.replicate (3 - ps.length) (.slice none 0 0)
theorem flC_nil {F : List (List UInt8)} (_h : F.length = 3) : List.replicate 3 (.slice none 0 0 : Value) = flC [] F := by simp [flC]
theorem flC_len {ps : List (Option Addr × Nat)} {F : List (List UInt8)} {i : Nat} (hp : ps.length = i) (hF : F.length = 3) (hi : i ≤ 3) : (flC ps F).length = 3 := by
  simp [flC, hp, hF]; omega
theorem flC_one (ps : List (Option Addr × Nat)) (F : List (List UInt8)) : (flC ps F).all (·.oneCell') = true := by simp [flC, Value.oneCell']
theorem flC_set {ps : List (Option Addr × Nat)} {F : List (List UInt8)} {i : Nat} (hp : ps.length = i) (hF : F.length = 3) (hi : i < 3) (A : Option Addr) (c : Nat) : (flC ps F).set (0 + (i : Int).toNat * 1) (.slice A (F.getD i []).length c) = flC (ps ++ [(A, c)]) F := by
  have e : 0 + (i : Int).toNat * 1 = i := by simp
  rw [e]
  obtain ⟨f0, f1, f2, rfl⟩ : ∃ a b c, F = [a, b, c] := by
    match F, hF with
    | [a, b, c], _ => exact ⟨a, b, c, rfl⟩
  match i, hi, ps, hp with
  | 0, _, [], _ => rfl
  | 1, _, [p], _ => rfl
  | 2, _, [p, q], _ => rfl
theorem flC_get {ps : List (Option Addr × Nat)} {F : List (List UInt8)} (hp : ps.length = 3) (hF : F.length = 3) {i : Nat} (hi : i < 3) : (flC ps F)[0 + (i : Int).toNat * 1]? = some (.slice (ps.getD i (none, 0)).1 (F.getD i []).length (ps.getD i (none, 0)).2) := by
  have e : 0 + (i : Int).toNat * 1 = i := by simp
  rw [e]
  obtain ⟨f0, f1, f2, rfl⟩ : ∃ a b c, F = [a, b, c] := by
    match F, hF with
    | [a, b, c], _ => exact ⟨a, b, c, rfl⟩
  obtain ⟨p0, p1, p2, rfl⟩ : ∃ a b c, ps = [a, b, c] := by
    match ps, hp with
    | [a, b, c], _ => exact ⟨a, b, c, rfl⟩
  match i, hi with
  | 0, _ | 1, _ | 2, _ => rfl
/-- the slices are new, from block B on -/
def FlP (w : World) (B : Nat) (ps : List (Option Addr × Nat)) (F : List (List UInt8)) : Prop :=
  ∀ i, i < ps.length → OwnB w B 5 (ps.getD i (none, 0)).1 (ps.getD i (none, 0)).2 (F.getD i [])
theorem FlP.nil (w : World) (B : Nat) (F : List (List UInt8)) : FlP w B [] F := fun i hi => absurd hi (by simp)
theorem FlP.fr {w w' : World} {B : Nat} {ps : List (Option Addr × Nat)} {F : List (List UInt8)} {M : List Nat} (h : FlP w B ps F) (hf : Fr M w w') (hM : ∀ i ∈ M, ∃ t cs, t ≠ 5 ∧ Blk w i t cs) : FlP w' B ps F := fun i hi =>
  (h i hi).fr hf fun j hj hm => by
    obtain ⟨t, cs, ht, hb⟩ := hM j hm
    exact (h i hi).notin hb ht hj
theorem FlP.fr0 {w w' : World} {B : Nat} {ps : List (Option Addr × Nat)} {F : List (List UInt8)} (h : FlP w B ps F) (hf : Fr [] w w') : FlP w' B ps F := h.fr hf (by simp)
theorem FlP.snoc {w : World} {B : Nat} {ps : List (Option Addr × Nat)} {F : List (List UInt8)} {i : Nat} (h : FlP w B ps F) (hp : ps.length = i) (_hF : F.length = 3) (_hi : i < 3) {A : Option Addr} {c : Nat} (hQ : OwnB w B 5 A c (F.getD i [])) : FlP w B (ps ++ [(A, c)]) F := by
  subst hp
  intro j hj
  simp at hj
  rcases Nat.lt_or_ge j ps.length with h1 | h1
  · have := h j h1
    simp only [List.getD_eq_getElem?_getD, List.getElem?_append_left h1] at this ⊢
    exact this
  · obtain rfl : j = ps.length := by omega
    simp only [List.getD_eq_getElem?_getD, List.getElem?_append_right (Nat.le_refl _), Nat.sub_self] at hQ ⊢
    exact hQ
end Go.Sx
namespace Go.Sx
theorem does_room (D : Dk) (k : Do) : (D.does k).2.room = D.room := by
  have hb := burnD_room D
  unfold Dk.does
  split
  · unfold Dk.wipe; split
    · rfl
    · dsimp only; split
      · exact hb 1
      · exact hb 1
  split
  · unfold Dk.crash; split <;> rfl
  split
  · rfl
  split
  · unfold Dk.arm; split
    · rfl
    · split <;> rfl
  split
  · unfold Dk.disarm; split <;> rfl
  · unfold Dk.append; split
    · rfl
    split
    · rfl
    · exact hb _
theorem runs_room (L : List Do) : ∀ D : Dk, (runs D L).room = D.room := by
  induction L with
  | nil => intro D; rfl
  | cons k L ih => intro D; show (runs (D.does k).2 L).room = _; rw [ih, does_room]
theorem done_cases (D : Dk) : D.done = 50 ∨ D.done = 0 := by unfold Dk.done; split <;> simp
theorem able_cases (D : Dk) (f : Int) : D.able f = 50 ∨ D.able f = 51 ∨ D.able f = 0 := by unfold Dk.able; split; simp; split <;> simp
/-- a call that has no room changes nothing -/
theorem does_full (D : Dk) (k : Do) (h : (D.does k).1 = 7) : (D.does k).2 = D := by
  have ha := able_cases D k.file
  unfold Dk.does at h ⊢
  split at h
  · rename_i hc; rw [if_pos hc]
    unfold Dk.wipe at h ⊢
    split at h
    · rename_i hq; rw [if_pos hq]
    · dsimp only at h
      split at h
      · have := done_cases ((D.burnD 1).put k.file.toNat []); omega
      · have := done_cases (D.burnD 1); omega
  rename_i hc; rw [if_neg hc]
  split at h
  · unfold Dk.crash at h
    split at h
    · cases h
    · cases h
  rename_i hc; rw [if_neg hc]
  split at h
  · cases h
  rename_i hc; rw [if_neg hc]
  split at h
  · unfold Dk.arm at h
    split at h
    · cases h
    · split at h
      · cases h
      · cases h
  rename_i hc; rw [if_neg hc]
  split at h
  · unfold Dk.disarm at h
    split at h
    · cases h
    · cases h
  rename_i hc; rw [if_neg hc]
  unfold Dk.append at h ⊢
  split at h
  · rename_i hq; rw [if_pos hq]
  rename_i hq; rw [if_neg hq]
  split at h
  · rename_i hq; rw [if_pos hq]
  · dsimp only at h
    have := done_cases ((D.burnD k.b.length).put k.file.toNat (D.F.getD k.file.toNat [] ++ k.b.take (D.burnN k.b.length)))
    omega
end Go.Sx
namespace Go.Sx
open Go
theorem FlP.le {w : World} {B B' : Nat} {ps : List (Option Addr × Nat)} {F : List (List UInt8)} (h : FlP w B ps F) (hb : B' ≤ B) : FlP w B' ps F := fun i hi => (h i hi).le hb
end Go.Sx
namespace Go.Sx
open Go
theorem Dsk.to {w : World} {B d : Nat} {D D' : Dk} (h : Dsk w B d D) (e : D = D') : Dsk w B d D' := e ▸ h
end Go.Sx
