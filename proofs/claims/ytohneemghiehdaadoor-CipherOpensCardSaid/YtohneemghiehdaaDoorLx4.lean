/- LX, fourth part: arguments, whatever they are, as pure values. -/
import Derived.Test.YtohneemghiehdaaDoorLx3
import Derived.Test.YtohneemghiehdaaDoorSx13
import Derived.Deep.Slices
set_option linter.unusedVariables false
set_option linter.unusedSimpArgs false
namespace Go.Lx
open Go Go.Sx Go.ChangeShapes Go.WideShapes Go.Deep

/-- all that a world has -/
def GW (W : World) : Gh := fun a v => W.cell? a = some v
theorem GW.st (W : World) : St (GW W) W := fun _ _ h => h
/-- what may be -/
class Wf (α : Type) where
  wf : α → Prop
instance : Wf Int := ⟨fun n => -9223372036854775808 ≤ n ∧ n ≤ 9223372036854775807⟩
instance : Wf UInt8 := ⟨fun _ => True⟩
instance : Wf (BitVec 32) := ⟨fun _ => True⟩
instance : Wf (BitVec 64) := ⟨fun _ => True⟩
instance : Wf Bool := ⟨fun _ => True⟩
instance : Wf Str := ⟨fun s => s.b.length ≤ 9223372036854775807⟩
instance {α : Type} [Wf α] : Wf (List α) := ⟨fun l => l.length ≤ 9223372036854775807 ∧ ∀ x ∈ l, Wf.wf x⟩
/-- cells of type t are a pure value's -/
def Opn (P : Program) (t : TypeId) (α : Type) [Rp α] [Wf α] : Prop :=
  ∀ {W : World} {H : Type} {enc : TypeId × Value → H} {fuel : Nat} {cs : List Value} {x : DataW H × List MemPlace}, DataW.trod enc P W 0 (fun _ => true) true fuel t cs = some x → ∃ v : α, Rp.cs (GW W) v cs ∧ Wf.wf v
section
variable {P : Program} {t e : TypeId}
theorem opn_i64 (hu : P.underlying t = some (.int .i64)) : Opn P t Int := fun h => by
  obtain ⟨n, rfl, _, hw⟩ := DataW.trod_int hu h
  refine ⟨n, rfl, ?_⟩
  simp only [Lit.wf, IntKind.min, IntKind.max, IntKind.bits, IntKind.signed, Bool.and_eq_true, decide_eq_true_eq, if_true] at hw
  show _ ∧ _
  omega
theorem opn_u8 (hu : P.underlying t = some (.int .u8)) : Opn P t UInt8 := fun h => by
  obtain ⟨n, rfl, _, hw⟩ := DataW.trod_int hu h
  exact ⟨_, by rw [vb_nat hw]; rfl, trivial⟩
theorem opn_u64 (hu : P.underlying t = some (.int .u64)) : Opn P t (BitVec 64) := fun h => by
  obtain ⟨n, rfl, _, hw⟩ := DataW.trod_int hu h
  refine ⟨BitVec.ofNat 64 n.toNat, ?_, trivial⟩
  simp only [Lit.wf, IntKind.min, IntKind.max, IntKind.bits, IntKind.signed, Bool.and_eq_true, decide_eq_true_eq] at hw
  have h1 : 0 ≤ n := by simpa using hw.1
  have h2 : n < 18446744073709551616 := by have := hw.2; simp at this; omega
  show [Value.int .u64 n] = [w64 _]
  rw [w64, BitVec.toNat_ofNat, Nat.mod_eq_of_lt (by omega), Int.toNat_of_nonneg h1]
theorem opn_u32 (hu : P.underlying t = some (.int .u32)) : Opn P t (BitVec 32) := fun h => by
  obtain ⟨n, rfl, _, hw⟩ := DataW.trod_int hu h
  refine ⟨BitVec.ofNat 32 n.toNat, ?_, trivial⟩
  simp only [Lit.wf, IntKind.min, IntKind.max, IntKind.bits, IntKind.signed, Bool.and_eq_true, decide_eq_true_eq] at hw
  have h1 : 0 ≤ n := by simpa using hw.1
  have h2 : n < 4294967296 := by have := hw.2; simp at this; omega
  show [Value.int .u32 n] = [w32 _]
  rw [w32, BitVec.toNat_ofNat, Nat.mod_eq_of_lt (by omega), Int.toNat_of_nonneg h1]
theorem opn_bool (hu : P.underlying t = some .bool) : Opn P t Bool := fun h => by
  obtain ⟨b, rfl, _⟩ := DataW.trod_bool hu h
  exact ⟨b, rfl, trivial⟩
theorem opn_str (hu : P.underlying t = some .string) : Opn P t Str := fun h => by
  obtain ⟨s, rfl, _, hs⟩ := DataW.trod_string hu h
  refine ⟨⟨s.data.toList⟩, rfl, ?_⟩
  have h2 : s.data.toList.length = s.size := Array.length_toList
  unfold maxLen at hs
  show s.data.toList.length ≤ _
  omega
theorem opn_sl {α : Type} [Rp α] [Wf α] (hu : P.underlying t = some (.slice e)) (he : Opn P e α) (hc : P.cellsOf e = Rp.n α) : Opn P t (List α) := fun {W H enc fuel cs x} h => by
  rcases open_slice hu h with ⟨hcs, _⟩ | ⟨a, l, c, m, n, D, Pl, hcs, _, hl, hm, hmm, hx, hel⟩
  · exact ⟨[], ⟨none, 0, hcs, Nat.le_refl _, Sl.nil⟩, by show _ ∧ _; simp⟩
  · simp only [if_true] at hmm
    subst hmm
    have key : ∀ k, k ≤ l → ∃ (L : List α) (css : List (List Value)), L.length = k ∧ All2 (Rp.cs (GW W)) L css ∧ Fz (GW W) (some a) css.flatten ∧ ∀ y ∈ L, Wf.wf y := by
      intro k
      induction k with
      | zero => intro _; exact ⟨[], [], rfl, .nil, fun j v hj => by simp at hj, by simp⟩
      | succ k ih =>
        intro hk
        obtain ⟨L, css, h1, h2, h3, h4⟩ := ih (by omega)
        obtain ⟨cs', h5, h6⟩ := hel k (by omega)
        obtain ⟨y, hy, hw⟩ := he h6
        obtain ⟨_, hlen, hcell⟩ := World.cells?_some h5
        refine ⟨L ++ [y], css ++ [cs'], by simp [h1], h2.app (.cons hy .nil), fun j v hj => ?_, ?_⟩
        · rw [List.flatten_append, List.flatten_singleton] at hj
          have hfl := flat_len h2
          rw [h1] at hfl
          rcases Nat.lt_or_ge j css.flatten.length with hlt | hge
          · rw [List.getElem?_append_left hlt] at hj
            exact h3 j v hj
          · rw [List.getElem?_append_right hge] at hj
            have hjl := (List.getElem?_eq_some_iff.1 hj).1
            refine ⟨rfl, ?_⟩
            have hc' := hcell (j - css.flatten.length) (by omega)
            rw [Sx.add_add, hc] at hc'
            have : k * Rp.n α + (j - css.flatten.length) = j := by omega
            rw [this] at hc'
            show W.cell? ((adr (some a)).add j) = some v
            rw [adr, Option.getD_some, hc', hj]
        · intro z hz
          rcases List.mem_append.1 hz with hz | hz
          · exact h4 z hz
          · rw [List.mem_singleton] at hz; exact hz ▸ hw
    obtain ⟨L, css, h1, h2, h3, h4⟩ := key l (Nat.le_refl _)
    refine ⟨L, ⟨some a, _, by rw [h1]; exact hcs, by omega, css, h2, h3⟩, by unfold maxLen at hm; omega, h4⟩
/-- a struct's fields -/
theorem trod_fields {fs : Array Field} {n : Nat} (hst : P.underlying t = some (.struct fs)) (hn : P.cellsOf t = n) {W : World} {H : Type} {enc : TypeId × Value → H} {fuel : Nat} {cs : List Value} {x : DataW H × List MemPlace}
    (h : DataW.trod enc P W 0 (fun _ => true) true fuel t cs = some x) : cs.length = n ∧ ∃ fuel', ∀ (i : Nat) f, fs.toList[i]? = some f → ∃ y, DataW.trod enc P W 0 (fun _ => true) true fuel' f.type ((cs.drop f.offset).take (P.cellsOf f.type)) = some y := by
  cases fuel with
  | zero => simp [DataW.trod] at h
  | succ fuel =>
    rw [DataW.trod_step] at h
    unfold DataW.trodStep at h
    rw [hst] at h
    simp only [hn] at h
    split at h
    · rename_i hl
      obtain ⟨xs, hm, _⟩ := Option.map_eq_some_iff.1 h
      refine ⟨hl, fuel, fun i f hf0 => ?_⟩
      have hf := List.mem_of_getElem? hf0
      have : ∀ (l : List Field) (ys : List (DataW H × List MemPlace)), l.mapM (fun f => DataW.trod enc P W 0 (fun _ => true) true fuel f.type ((cs.drop f.offset).take (P.cellsOf f.type))) = some ys → f ∈ l → ∃ y, DataW.trod enc P W 0 (fun _ => true) true fuel f.type ((cs.drop f.offset).take (P.cellsOf f.type)) = some y := by
        intro l
        induction l with
        | nil => intro ys _ hf; cases hf
        | cons g l ih =>
          intro ys hy hf
          simp only [List.mapM_cons, bind, Option.bind_eq_some_iff, pure] at hy
          obtain ⟨y, h1, ys', h2, _⟩ := hy
          rcases List.mem_cons.1 hf with rfl | hf
          · exact ⟨y, h1⟩
          · exact ih ys' h2 hf
      exact this _ xs hm hf
    · cases h
theorem piece {α : Type} {cs : List α} (o n m : Nat) (h : o + n = m) : (cs.drop o).take n ++ cs.drop m = cs.drop o := by
  rw [← h, ← List.drop_drop, List.take_append_drop]
theorem len1 {α : Type} : ∀ (l : List α), l.length = 1 → ∃ a, l = [a]
  | [a], _ => ⟨a, rfl⟩
theorem Opn.at_ {α : Type} [Rp α] [Wf α] (ho : Opn P t α) {W : World} {H : Type} {enc : TypeId × Value → H} {v : Value} {d : DataW H} {ps : List MemPlace} (h : DataW.Trod enc P W 0 (fun _ => true) true t v d ps) : ∃ x : α, Rp.cs (GW W) x v.cells.toList ∧ Wf.wf x := by
  obtain ⟨fuel, hf⟩ := h
  exact ho hf
end
end Go.Lx
