/- PLAIN: lists of lists of bytes that are read. -/
import Derived.Test.YtohneemghiehdaaDoorSx14
set_option linter.unusedVariables false
set_option linter.unusedSimpArgs false
namespace Go.Sx
open Go
/-- a list of lists of bytes that is read -/
def RdLL (w : World) (A : Option Addr) (L : List (List UInt8)) : Prop :=
  ∀ j bs, L[j]? = some bs → A.isSome = true ∧ ∃ Ai ci, w.cell? ((adr A).add j) = some (.slice Ai bs.length ci) ∧ Rd w Ai (bs.map vb)
theorem RdLL.fr0 {w w' : World} {A : Option Addr} {L : List (List UInt8)} (h : RdLL w A L) (hf : Fr [] w w') : RdLL w' A L := by
  intro j bs hj
  obtain ⟨h1, Ai, ci, h3, h4⟩ := h j bs hj
  exact ⟨h1, Ai, ci, hf.cell h3 (by simp), h4.fr0 hf⟩
theorem RdLL.nil (w : World) (A : Option Addr) : RdLL w A [] := fun j bs h => by simp at h
theorem RdLL.lit {w : World} {b t : Nat} {cs : List Value} (hb : Blk w b t cs) : ∀ (L : List (List UInt8)) (ps : List (Option Addr × Nat)), cs = (List.zip ps L).map (fun p => .slice p.1.1 p.2.length p.1.2) → ps.length = L.length → (∀ p ∈ List.zip ps L, Rd w p.1.1 (p.2.map vb)) → RdLL w (some ⟨b, 0, none⟩) L := by
  intro L ps hc hl hx j bs hj
  refine ⟨rfl, ?_⟩
  have hjl : j < L.length := (List.getElem?_eq_some_iff.1 hj).1
  have hp : ps[j]? = some ps[j] := List.getElem?_eq_getElem (by omega)
  have hz : (List.zip ps L)[j]? = some (ps[j], bs) := by rw [List.getElem?_zip_eq_some]; exact ⟨hp, hj⟩
  refine ⟨ps[j].1, ps[j].2, ?_, hx _ (List.mem_of_getElem? hz)⟩
  simp only [adr, Option.getD_some, add_flat, Nat.zero_add]
  refine hb.at_ ?_
  rw [hc, List.getElem?_map, hz]
  rfl
theorem RdLL.cells {w : World} {A : Option Addr} : ∀ {L : List (List UInt8)}, RdLL w A L → ∃ ps : List (Option Addr × Nat), ps.length = L.length ∧ Rd w A ((List.zip ps L).map fun p => .slice p.1.1 p.2.length p.1.2) ∧ ∀ p ∈ List.zip ps L, Rd w p.1.1 (p.2.map vb) := by
  intro L h
  have key : ∀ n, n ≤ L.length → ∃ ps : List (Option Addr × Nat), ps.length = n ∧ ∀ j, (hj : j < n) → ∀ p bs, ps[j]? = some p → L[j]? = some bs → w.cell? ((adr A).add j) = some (.slice p.1 bs.length p.2) ∧ Rd w p.1 (bs.map vb) := by
    intro n
    induction n with
    | zero => intro _; exact ⟨[], rfl, fun j hj => absurd hj (by omega)⟩
    | succ n ih =>
      intro hn
      obtain ⟨ps, hl, hp⟩ := ih (by omega)
      obtain ⟨_, Ai, ci, h3, h4⟩ := h n L[n] (List.getElem?_eq_getElem (by omega))
      refine ⟨ps ++ [(Ai, ci)], by simp [hl], fun j hj p bs hpj hbj => ?_⟩
      rcases Nat.lt_or_ge j n with h1 | h1
      · rw [List.getElem?_append_left (by omega)] at hpj
        exact hp j h1 p bs hpj hbj
      · obtain rfl : j = n := by omega
        rw [List.getElem?_append_right (by omega), hl] at hpj
        simp at hpj
        subst hpj
        rw [List.getElem?_eq_getElem (by omega)] at hbj
        cases hbj
        exact ⟨h3, h4⟩
  obtain ⟨ps, hl, hp⟩ := key L.length (Nat.le_refl _)
  refine ⟨ps, hl, ?_, ?_⟩
  · intro j v hj
    rw [List.getElem?_map] at hj
    cases hz : (List.zip ps L)[j]? with
    | none => rw [hz] at hj; cases hj
    | some z =>
      rw [hz] at hj
      simp at hj
      obtain ⟨h1, h2⟩ := List.getElem?_zip_eq_some.1 hz
      have hjl : j < L.length := (List.getElem?_eq_some_iff.1 h2).1
      refine ⟨(h j _ h2).1, ?_⟩
      rw [← hj]
      exact (hp j hjl _ _ h1 h2).1
  · intro p hpm
    obtain ⟨j, hj⟩ := List.getElem?_of_mem hpm
    obtain ⟨h1, h2⟩ := List.getElem?_zip_eq_some.1 hj
    have hjl : j < L.length := (List.getElem?_eq_some_iff.1 h2).1
    exact (hp j hjl _ _ h1 h2).2
theorem RdLL.of {w : World} {A : Option Addr} {L : List (List UInt8)} {ps : List (Option Addr × Nat)} (hl : ps.length = L.length) (h : Rd w A ((List.zip ps L).map fun p => .slice p.1.1 p.2.length p.1.2)) (hp : ∀ p ∈ List.zip ps L, Rd w p.1.1 (p.2.map vb)) : RdLL w A L := by
  intro j bs hj
  have hjl : j < L.length := (List.getElem?_eq_some_iff.1 hj).1
  have hz : (List.zip ps L)[j]? = some (ps[j], bs) := by rw [List.getElem?_zip_eq_some]; exact ⟨List.getElem?_eq_getElem (by omega), hj⟩
  obtain ⟨h1, h2⟩ := h j _ (by rw [List.getElem?_map, hz]; rfl)
  exact ⟨h1, ps[j].1, ps[j].2, h2, hp _ (List.mem_of_getElem? hz)⟩
theorem zip_one {ps : List (Option Addr × Nat)} {L : List (List UInt8)} (hl : ps.length = L.length) : ((List.zip ps L).map fun p => (.slice p.1.1 p.2.length p.1.2 : Value)).length = L.length * 1 := by
  simp [hl]
theorem zip_all {ps : List (Option Addr × Nat)} {L : List (List UInt8)} : ((List.zip ps L).map fun p => (.slice p.1.1 p.2.length p.1.2 : Value)).all (·.oneCell') = true := by
  simp [Value.oneCell']
/-- a literal of one list is the call's own -/
theorem Own.lit1 {w : World} {B b t : Nat} {A : Option Addr} {n c : Nat} (hb : B ≤ b) (hB : Blk w b t [.slice A n c]) : Own w B t 1 (some ⟨b, 0, none⟩) 1 1 [.slice A n c] := Own.mk hb hB (Nat.le_refl _) (by simp [maxLen]) (by simp) (by simp)
theorem Own.cut0 {w : World} {B e n c : Nat} {A : Option Addr} {xs : List Value} (h : Own w B e 1 A n c xs) : OwnB w B e A c [] := by
  rcases h.form with ⟨rfl, _, rfl, _⟩ | ⟨g, cur, rfl, hb, hB, h1, h3, h4, h5⟩
  · exact Own.nil ..
  · exact Own.mk hb hB (Nat.zero_le _) h3 h4 (by simp)
theorem sum_take {L : List (List UInt8)} {i : Nat} (h : i < L.length) : (L.take (i + 1)).flatten = (L.take i).flatten ++ L[i] := by
  rw [List.take_succ_eq_append_getElem h, List.flatten_append]; simp
theorem flat_le {L : List (List UInt8)} {n : Nat} (h : ∀ bs ∈ L, bs.length ≤ n) : L.flatten.length ≤ L.length * n := by
  induction L with
  | nil => simp
  | cons a L ih =>
    rw [List.flatten_cons, List.length_append, List.length_cons, Nat.add_mul]
    have := h a (by simp)
    have := ih fun bs hb => h bs (by simp [hb])
    omega
theorem take_le {L : List (List UInt8)} (i : Nat) : (L.take i).flatten.length ≤ L.flatten.length := by
  have h : L.flatten = (L.take i).flatten ++ (L.drop i).flatten := by rw [← List.flatten_append, List.take_append_drop]
  rw [h, List.length_append]; omega
end Go.Sx
