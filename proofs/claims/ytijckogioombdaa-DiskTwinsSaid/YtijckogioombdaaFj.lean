/- PLAIN: what a disk has, as a list of slices; lists of calls. -/
import Derived.Test.YtijckogioombdaaSx16
set_option linter.unusedVariables false
set_option linter.unusedSimpArgs false
namespace Go.Sx
open Go
theorem over4_ {cs vs : List Value} (h : cs.length = vs.length) : over cs 0 vs = vs := by simp [over, h]
/-- calls, one behind the other -/
def runs (D : Dk) (L : List Do) : Dk := L.foldl (fun D k => (D.does k).2) D
theorem runs_app (D : Dk) (L : List Do) (k : Do) : runs D (L ++ [k]) = ((runs D L).does k).2 := by simp [runs, List.foldl_append]
/-- so many slices, and nil -/
def flC (ps : List (Option Addr × Nat)) (F : List (List UInt8)) : List Value :=
  ((List.zip ps F).map fun p => .slice p.1.1 p.2.length p.1.2) ++ List.replicate (3 - ps.length) (.slice none 0 0)
theorem flC_nil {F : List (List UInt8)} (_h : F.length = 3) : List.replicate 3 (.slice none 0 0 : Value) = flC [] F := by simp [flC]
theorem flC_len {ps : List (Option Addr × Nat)} {F : List (List UInt8)} {i : Nat} (hp : ps.length = i) (hF : F.length = 3) (hi : i ≤ 3) : (flC ps F).length = 3 := by
  simp [flC, hp, hF]; omega
theorem flC_one (ps : List (Option Addr × Nat)) (F : List (List UInt8)) : (flC ps F).all (·.oneCell') = true := by simp [flC, Value.oneCell']
theorem flC_set {ps : List (Option Addr × Nat)} {F : List (List UInt8)} {i : Nat} (hp : ps.length = i) (hF : F.length = 3) (hi : i < 3) (A : Option Addr) (c : Nat) : (flC ps F).set (0 + (i : Int).toNat * 1) (.slice A (F.getD i []).length c) = flC (ps ++ [(A, c)]) F := by
  have e : 0 + (i : Int).toNat * 1 = i := by simp
  rw [e]
  obtain ⟨f0, f1, f2, rfl⟩ : ∃ a b c, F = [a, b, c] := by
    match F, hF with
    | [a, b, c], _ => exact ⟨a, b, c, rfl⟩
  match i, hi, ps, hp with
  | 0, _, [], _ => rfl
  | 1, _, [p], _ => rfl
  | 2, _, [p, q], _ => rfl
theorem flC_get {ps : List (Option Addr × Nat)} {F : List (List UInt8)} (hp : ps.length = 3) (hF : F.length = 3) {i : Nat} (hi : i < 3) : (flC ps F)[0 + (i : Int).toNat * 1]? = some (.slice (ps.getD i (none, 0)).1 (F.getD i []).length (ps.getD i (none, 0)).2) := by
  have e : 0 + (i : Int).toNat * 1 = i := by simp
  rw [e]
  obtain ⟨f0, f1, f2, rfl⟩ : ∃ a b c, F = [a, b, c] := by
    match F, hF with
    | [a, b, c], _ => exact ⟨a, b, c, rfl⟩
  obtain ⟨p0, p1, p2, rfl⟩ : ∃ a b c, ps = [a, b, c] := by
    match ps, hp with
    | [a, b, c], _ => exact ⟨a, b, c, rfl⟩
  match i, hi with
  | 0, _ | 1, _ | 2, _ => rfl
/-- the slices are new, from block B on -/
def FlP (w : World) (B : Nat) (ps : List (Option Addr × Nat)) (F : List (List UInt8)) : Prop :=
  ∀ i, i < ps.length → OwnB w B 5 (ps.getD i (none, 0)).1 (ps.getD i (none, 0)).2 (F.getD i [])
theorem FlP.nil (w : World) (B : Nat) (F : List (List UInt8)) : FlP w B [] F := fun i hi => absurd hi (by simp)
theorem FlP.fr {w w' : World} {B : Nat} {ps : List (Option Addr × Nat)} {F : List (List UInt8)} {M : List Nat} (h : FlP w B ps F) (hf : Fr M w w') (hM : ∀ i ∈ M, ∃ t cs, t ≠ 5 ∧ Blk w i t cs) : FlP w' B ps F := fun i hi =>
  (h i hi).fr hf fun j hj hm => by
    obtain ⟨t, cs, ht, hb⟩ := hM j hm
    exact (h i hi).notin hb ht hj
theorem FlP.fr0 {w w' : World} {B : Nat} {ps : List (Option Addr × Nat)} {F : List (List UInt8)} (h : FlP w B ps F) (hf : Fr [] w w') : FlP w' B ps F := h.fr hf (by simp)
theorem FlP.snoc {w : World} {B : Nat} {ps : List (Option Addr × Nat)} {F : List (List UInt8)} {i : Nat} (h : FlP w B ps F) (hp : ps.length = i) (_hF : F.length = 3) (_hi : i < 3) {A : Option Addr} {c : Nat} (hQ : OwnB w B 5 A c (F.getD i [])) : FlP w B (ps ++ [(A, c)]) F := by
  subst hp
  intro j hj
  simp at hj
  rcases Nat.lt_or_ge j ps.length with h1 | h1
  · have := h j h1
    simp only [List.getD_eq_getElem?_getD, List.getElem?_append_left h1] at this ⊢
    exact this
  · obtain rfl : j = ps.length := by omega
    simp only [List.getD_eq_getElem?_getD, List.getElem?_append_right (Nat.le_refl _), Nat.sub_self] at hQ ⊢
    exact hQ
end Go.Sx
namespace Go.Sx
theorem does_room (D : Dk) (k : Do) : (D.does k).2.room = D.room := by
  have hb := burnD_room D
  unfold Dk.does
  split
  · unfold Dk.wipe; split
    · rfl
    · dsimp only; split
      · exact hb 1
      · exact hb 1
  split
  · unfold Dk.crash; split <;> rfl
  split
  · rfl
  split
  · unfold Dk.arm; split
    · rfl
    · split <;> rfl
  split
  · unfold Dk.disarm; split <;> rfl
  · unfold Dk.append; split
    · rfl
    split
    · rfl
    · exact hb _
theorem runs_room (L : List Do) : ∀ D : Dk, (runs D L).room = D.room := by
  induction L with
  | nil => intro D; rfl
  | cons k L ih => intro D; show (runs (D.does k).2 L).room = _; rw [ih, does_room]
theorem done_cases (D : Dk) : D.done = 50 ∨ D.done = 0 := by unfold Dk.done; split <;> simp
theorem able_cases (D : Dk) (f : Int) : D.able f = 50 ∨ D.able f = 51 ∨ D.able f = 0 := by unfold Dk.able; split; simp; split <;> simp
/-- a call that has no room changes nothing -/
theorem does_full (D : Dk) (k : Do) (h : (D.does k).1 = 7) : (D.does k).2 = D := by
  have ha := able_cases D k.file
  unfold Dk.does at h ⊢
  split at h
  · rename_i hc; rw [if_pos hc]
    unfold Dk.wipe at h ⊢
    split at h
    · rename_i hq; rw [if_pos hq]
    · dsimp only at h
      split at h
      · have := done_cases ((D.burnD 1).put k.file.toNat []); omega
      · have := done_cases (D.burnD 1); omega
  rename_i hc; rw [if_neg hc]
  split at h
  · unfold Dk.crash at h
    split at h
    · cases h
    · cases h
  rename_i hc; rw [if_neg hc]
  split at h
  · cases h
  rename_i hc; rw [if_neg hc]
  split at h
  · unfold Dk.arm at h
    split at h
    · cases h
    · split at h
      · cases h
      · cases h
  rename_i hc; rw [if_neg hc]
  split at h
  · unfold Dk.disarm at h
    split at h
    · cases h
    · cases h
  rename_i hc; rw [if_neg hc]
  unfold Dk.append at h ⊢
  split at h
  · rename_i hq; rw [if_pos hq]
  rename_i hq; rw [if_neg hq]
  split at h
  · rename_i hq; rw [if_pos hq]
  · dsimp only at h
    have := done_cases ((D.burnD k.b.length).put k.file.toNat (D.F.getD k.file.toNat [] ++ k.b.take (D.burnN k.b.length)))
    omega
end Go.Sx
namespace Go.Sx
open Go
theorem FlP.le {w : World} {B B' : Nat} {ps : List (Option Addr × Nat)} {F : List (List UInt8)} (h : FlP w B ps F) (hb : B' ≤ B) : FlP w B' ps F := fun i hi => (h i hi).le hb
end Go.Sx
namespace Go.Sx
open Go
theorem Dsk.to {w : World} {B d : Nat} {D D' : Dk} (h : Dsk w B d D) (e : D = D') : Dsk w B d D' := e ▸ h
end Go.Sx
namespace Go.Sx
open Go
def bytesOf (L : List Do) : Nat := (L.map fun k => k.b.length).sum
theorem bytesOf_app (L : List Do) (k : Do) : bytesOf (L ++ [k]) = bytesOf L + k.b.length := by simp [bytesOf]
theorem mem_bytes {L : List Do} {k : Do} (h : k ∈ L) : k.b.length ≤ bytesOf L := by
  unfold bytesOf
  induction L with
  | nil => cases h
  | cons a L ih =>
    rw [List.map_cons, List.sum_cons]
    rcases List.mem_cons.1 h with rfl | h
    · omega
    · have := ih h; omega
theorem used_set_le (D : Dk) (i : Nat) (b : List UInt8) (n : Nat) (hb : b.length ≤ (D.F.getD i []).length + n) : (D.put i b).used ≤ D.used + n := by
  unfold Dk.used Dk.put
  dsimp only
  have key : ∀ (F : List (List UInt8)) (i : Nat), b.length ≤ (F.getD i []).length + n → ((F.set i b).map List.length).sum ≤ (F.map List.length).sum + n := by
    intro F
    induction F with
    | nil => intro i _; simp
    | cons f F ih =>
      intro i hi
      cases i with
      | zero => simp at hi ⊢; omega
      | succ i =>
        have := ih i (by simpa using hi)
        simp only [List.set_cons_succ, List.map_cons, List.sum_cons]
        omega
  exact key D.F i hb
theorem does_used (D : Dk) (k : Do) : (D.does k).2.used ≤ D.used + k.b.length := by
  have hb := burnD_used D
  have hF := burnD_F D
  unfold Dk.does
  split
  · unfold Dk.wipe; split
    · simp
    · dsimp only; split
      · have := used_set_le (D.burnD 1) k.file.toNat [] 0 (by simp)
        rw [hb] at this; omega
      · rw [hb]; omega
  split
  · unfold Dk.crash; split <;> simp [Dk.used]
  split
  · simp [Dk.start, Dk.used]
  split
  · unfold Dk.arm; split
    · simp
    · split <;> simp [Dk.used]
  split
  · unfold Dk.disarm; split <;> simp [Dk.used]
  · unfold Dk.append; split
    · simp
    split
    · simp
    · dsimp only
      have := used_set_le (D.burnD k.b.length) k.file.toNat (D.F.getD k.file.toNat [] ++ k.b.take (D.burnN k.b.length)) k.b.length (by rw [hF]; simp; omega)
      rw [hb] at this; exact this
theorem runs_used (L : List Do) : ∀ D : Dk, (runs D L).used ≤ D.used + bytesOf L := by
  induction L with
  | nil => intro D; exact Nat.le_add_right _ _
  | cons k L ih =>
    intro D
    have h1 := ih (D.does k).2
    have h2 := does_used D k
    show (runs (D.does k).2 L).used ≤ _
    have e : bytesOf (k :: L) = k.b.length + bytesOf L := by simp [bytesOf]
    rw [e]; omega
/-- what is appended to a disk with a fuse -/
theorem begins_spec {D : Dk} (hok : DkOk D) {i N : Nat} {b : List UInt8} (hi : i < 3) (hN : 1 ≤ N) (hb : b.length ≤ D.room - D.used) :
    ((D.start.2.arm (N : Int)).2.append (i : Int) b).1 = (if N ≤ b.length then 50 else 0) ∧ ((D.start.2.arm (N : Int)).2.append (i : Int) b).2.F = D.F.set i (D.F.getD i [] ++ b.take (min N b.length)) := by
  have ha : D.start.2.arm (N : Int) = (0, { D with off := false, armed := true, left := N }) := by
    unfold Dk.arm Dk.start
    dsimp only
    rw [if_neg (by simp), if_neg (by omega)]
    rfl
  rw [ha]
  dsimp only
  have hp := append_put (D := { D with off := false, armed := true, left := N }) (b := b) hi rfl hb
  rw [hp]
  unfold Dk.burnD Dk.burnN Dk.put Dk.done
  dsimp only
  simp only [if_true]
  by_cases h : b.length < N
  · have h2 : ¬ N ≤ b.length := by omega
    simp [h, h2, Nat.min_eq_right (show b.length ≤ N by omega)]
  · have h2 : N ≤ b.length := by omega
    simp [h, h2, Nat.min_eq_left h2]
end Go.Sx
namespace Go.Sx
theorem begin_arm (D : Dk) {N : Nat} (h : 1 ≤ N) : (D.start.2.arm (N : Int)).1 = 0 := by
  unfold Dk.arm Dk.start
  dsimp only
  rw [if_neg (by simp), if_neg (by omega)]
theorem set_other (F : List (List UInt8)) {i j : Nat} (h : i ≠ j) (b : List UInt8) : (F.set i b).getD j [] = F.getD j [] := by
  simp only [List.getD_eq_getElem?_getD, List.getElem?_set_ne h]
theorem set_same {F : List (List UInt8)} {i : Nat} (h : i < F.length) (b : List UInt8) : (F.set i b).getD i [] = b := by
  simp [List.getD_eq_getElem?_getD, h]
end Go.Sx
