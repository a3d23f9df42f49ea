/- PLAIN: lists of calls as cells; a call that is refused. -/
import Derived.Test.YtijckogioombdaaFj
import Derived.Test.YtijckogioombdaaSx16
set_option linter.unusedVariables false
set_option linter.unusedSimpArgs false
namespace Go.Sx
open Go
theorem DoOk.fr0 {w w' : World} {k : Do} {A : Option Addr} {c : Nat} (h : DoOk w k A c) (hf : Fr [] w w') : DoOk w' k A c := ⟨h.1, h.2.1, h.2.2.1.fr0 hf, h.2.2.2⟩
/-- these cells are a list of calls -/
structure DoXs (w : World) (L : List Do) (xs : List Value) : Prop where
  len : xs.length = L.length * 4
  one : xs.all (·.oneCell') = true
  el : ∀ (j : Nat) k, L[j]? = some k → ∃ Ai ci, DoOk w k Ai ci ∧ ∀ (r : Nat) v, (doC k Ai ci)[r]? = some v → xs[j * 4 + r]? = some v
theorem DoXs.fr0 {w w' : World} {L : List Do} {xs : List Value} (h : DoXs w L xs) (hf : Fr [] w w') : DoXs w' L xs :=
  ⟨h.len, h.one, fun j k hj => by obtain ⟨Ai, ci, h1, h2⟩ := h.el j k hj; exact ⟨Ai, ci, h1.fr0 hf, h2⟩⟩
theorem DoXs.nil (w : World) : DoXs w [] [] := ⟨rfl, rfl, fun j k h => by simp at h⟩
theorem DoXs.single {w : World} {k : Do} {A : Option Addr} {c : Nat} (h : DoOk w k A c) : DoXs w [k] (doC k A c) :=
  ⟨rfl, rfl, fun j k' hj => by
    have hl := (List.getElem?_eq_some_iff.1 hj).1
    simp at hl
    subst hl
    simp at hj
    subst hj
    exact ⟨A, c, h, fun r v hr => by rw [Nat.zero_mul, Nat.zero_add]; exact hr⟩⟩
theorem DoXs.app {w : World} {L M : List Do} {xs ys : List Value} (h : DoXs w L xs) (h2 : DoXs w M ys) : DoXs w (L ++ M) (xs ++ ys) :=
  ⟨by rw [List.length_append, List.length_append, h.len, h2.len, Nat.add_mul], by rw [List.all_append, h.one, h2.one]; rfl, fun j k hj => by
    rcases Nat.lt_or_ge j L.length with hl | hl
    · rw [List.getElem?_append_left hl] at hj
      obtain ⟨Ai, ci, h3, h4⟩ := h.el j k hj
      refine ⟨Ai, ci, h3, fun r v hr => ?_⟩
      have := h4 r v hr
      have hx := (List.getElem?_eq_some_iff.1 this).1
      rw [List.getElem?_append_left hx]; exact this
    · rw [List.getElem?_append_right hl] at hj
      obtain ⟨Ai, ci, h3, h4⟩ := h2.el _ k hj
      refine ⟨Ai, ci, h3, fun r v hr => ?_⟩
      have := h4 r v hr
      rw [List.getElem?_append_right (by rw [h.len]; omega), h.len, show j * 4 + r - L.length * 4 = (j - L.length) * 4 + r by omega]
      exact this⟩
theorem DoXs.rd {w : World} {L : List Do} {xs : List Value} {A : Option Addr} (h : DoXs w L xs) (hr : Rd w A xs) : RdDo w A L := by
  intro j k hj
  obtain ⟨Ai, ci, h1, h2⟩ := h.el j k hj
  refine ⟨(hr _ _ (h2 0 (vi k.op) rfl)).1, Ai, ci, fun r v hv => ?_, h1⟩
  rw [add_add, Int.toNat_natCast]
  exact (hr _ _ (h2 r v hv)).2
theorem RdDo.xs {w : World} {L : List Do} {A : Option Addr} (h : RdDo w A L) : ∃ xs, DoXs w L xs ∧ Rd w A xs := by
  have key : ∀ n, n ≤ L.length → ∃ xs, DoXs w (L.take n) xs ∧ Rd w A xs := by
    intro n
    induction n with
    | zero => intro _; exact ⟨[], DoXs.nil w, Rd.nil _ _⟩
    | succ n ih =>
      intro hn
      obtain ⟨xs, hx, hr⟩ := ih (by omega)
      obtain ⟨hs, Ai, ci, hc, hk⟩ := h n _ (List.getElem?_eq_getElem (by omega : n < L.length))
      refine ⟨xs ++ doC L[n] Ai ci, ?_, ?_⟩
      · rw [List.take_succ_eq_append_getElem (by omega)]
        exact hx.app (DoXs.single hk)
      · have hl := hx.len
        rw [List.length_take, Nat.min_eq_left (by omega)] at hl
        intro i v hi
        rcases Nat.lt_or_ge i xs.length with hil | hil
        · rw [List.getElem?_append_left hil] at hi
          exact hr i v hi
        · rw [List.getElem?_append_right hil, hl] at hi
          refine ⟨hs, ?_⟩
          have := hc _ _ hi
          rw [add_add, Int.toNat_natCast, show n * 4 + (i - n * 4) = i by omega] at this
          exact this
  have := key L.length (Nat.le_refl _)
  rw [List.take_length] at this
  exact this
theorem bytesOf_cons (k : Do) (L : List Do) : bytesOf (k :: L) = k.b.length + bytesOf L := by simp [bytesOf]
theorem bytesOf_two (L M : List Do) : bytesOf (L ++ M) = bytesOf L + bytesOf M := by simp [bytesOf]
theorem runs_two (D : Dk) (L M : List Do) : runs D (L ++ M) = runs (runs D L) M := by simp [runs, List.foldl_append]
/-- a call that is refused changes nothing -/
theorem refused_same {D : Dk} {k : Do} (h0 : (D.does k).1 ≠ 0) (h1 : (D.does k).1 = 50 → D.off = true) : (D.does k).2 = D := by
  have off0 : ∀ f, D.able f = 0 → D.off = false := fun f h => by obtain ⟨_, _, _, h⟩ := able_zero h; exact h
  unfold Dk.does at h0 h1 ⊢
  split
  · rename_i hc; rw [if_pos hc] at h0 h1
    unfold Dk.wipe at h0 h1 ⊢
    split
    · rfl
    · rename_i hq; rw [if_neg hq] at h0 h1
      have ho := off0 _ (by omega : D.able k.file = 0)
      exfalso
      dsimp only at h0 h1
      have h2 := done_cases (if D.burnN 1 = 1 then (D.burnD 1).put k.file.toNat [] else D.burnD 1)
      rcases h2 with h2 | h2
      · rw [h1 h2] at ho; cases ho
      · exact h0 h2
  rename_i hc; rw [if_neg hc] at h0 h1
  split
  · rename_i hc; rw [if_pos hc] at h0 h1
    unfold Dk.crash at h0 ⊢
    split
    · rfl
    · rename_i hq; rw [if_neg hq] at h0; exact absurd rfl h0
  rename_i hc; rw [if_neg hc] at h0 h1
  split
  · rename_i hc; rw [if_pos hc] at h0; exact absurd rfl h0
  rename_i hc; rw [if_neg hc] at h0 h1
  split
  · rename_i hc; rw [if_pos hc] at h0 h1
    unfold Dk.arm at h0 ⊢
    split
    · rfl
    · rename_i hq; rw [if_neg hq] at h0
      split
      · rfl
      · rename_i hq2; rw [if_neg hq2] at h0; exact absurd rfl h0
  rename_i hc; rw [if_neg hc] at h0 h1
  split
  · rename_i hc; rw [if_pos hc] at h0 h1
    unfold Dk.disarm at h0 ⊢
    split
    · rfl
    · rename_i hq; rw [if_neg hq] at h0; exact absurd rfl h0
  · rename_i hc; rw [if_neg hc] at h0 h1
    unfold Dk.append at h0 h1 ⊢
    split
    · rfl
    rename_i hq; rw [if_neg hq] at h0 h1
    have ho := off0 _ (by omega : D.able k.file = 0)
    split
    · rfl
    · rename_i hq2; rw [if_neg hq2] at h0 h1
      exfalso
      dsimp only at h0 h1
      have h2 := done_cases ((D.burnD k.b.length).put k.file.toNat (D.F.getD k.file.toNat [] ++ k.b.take (D.burnN k.b.length)))
      rcases h2 with h2 | h2
      · rw [h1 h2] at ho; cases ho
      · exact h0 h2
end Go.Sx
