/- PLAIN: eating blocks; the lists that are handed to Add. -/
import Derived.Test.YtohneemghiehdaaDoorDg
import Derived.Test.YtohneemghiehdaaDoorGl
set_option linter.unusedVariables false
set_option linter.unusedSimpArgs false
namespace Go.Sx
open Go
theorem eat_fuel : ∀ (f f' : Nat) (D : Bl.D), D.rest.length ≤ f → D.rest.length ≤ f' → Bl.eat f D = Bl.eat f' D
  | 0, f', D, h, _ => by
    have : ¬ 64 < D.rest.length := by omega
    cases f' with
    | zero => rfl
    | succ f' => rw [Bl.eat, Bl.eat, if_neg this]
  | f + 1, 0, D, _, h => by
    have : ¬ 64 < D.rest.length := by omega
    rw [Bl.eat, Bl.eat, if_neg this]
  | f + 1, f' + 1, D, h, h' => by
    rw [Bl.eat, Bl.eat]
    split
    · refine eat_fuel f f' _ ?_ ?_ <;> simp <;> omega
    · rfl
theorem eat_step {D : Bl.D} (h : 64 < D.rest.length) : Bl.eat D.rest.length D = Bl.eat (D.rest.drop 64).length ⟨Bl.mix D.h (D.rest.take 64) (D.n + 64) false, D.rest.drop 64, D.n + 64⟩ := by
  obtain ⟨k, hk⟩ : ∃ k, D.rest.length = k + 1 := ⟨D.rest.length - 1, by omega⟩
  rw [hk, Bl.eat, if_pos h]
  refine eat_fuel _ _ _ ?_ (Nat.le_refl _)
  simp; omega
theorem eat_done {D : Bl.D} (h : D.rest.length ≤ 64) (f : Nat) : Bl.eat f D = D := by
  cases f with
  | zero => rfl
  | succ f => rw [Bl.eat, if_neg (by omega)]
/-- as Dig, however many bytes wait -/
def DigL (w : World) (B d : Nat) (D : Bl.D) : Prop :=
  ∃ A c, Blk w d 71 (digC D.h A D.rest.length c D.n) ∧ D.h.length = 8 ∧ B ≤ d ∧ RestIs w B A D.rest ∧ D.rest.length ≤ c
theorem Dig.toL {w : World} {B d : Nat} {D : Bl.D} (h : Dig w B d D) : DigL w B d D := by
  obtain ⟨A, c, h1, h2, _, h4, h5, h6⟩ := h
  exact ⟨A, c, h1, h2, h4, h5, h6⟩
theorem DigL.dig {w : World} {B d : Nat} {D : Bl.D} (h : DigL w B d D) (hr : D.rest.length ≤ 64) : Dig w B d D := by
  obtain ⟨A, c, h1, h2, h4, h5, h6⟩ := h
  exact ⟨A, c, h1, h2, hr, h4, h5, h6⟩
/-- bytes that are read, and lie in none of the blocks M -/
def RdX (w : World) (M : List Nat) (A : Option Addr) (bs : List UInt8) : Prop := bs = [] ∨ (Rd w A (bs.map vb) ∧ Off A M)
theorem RdX.rd {w : World} {M : List Nat} {A : Option Addr} {bs : List UInt8} (h : RdX w M A bs) : Rd w A (bs.map vb) := by
  rcases h with rfl | h
  · exact Rd.nil _ _
  · exact h.1
theorem RdX.fr {w w' : World} {M : List Nat} {A : Option Addr} {bs : List UInt8} (h : RdX w M A bs) (hf : Fr M w w') (_ : True) : RdX w' M A bs := by
  rcases h with rfl | h
  · exact .inl rfl
  · exact .inr ⟨h.1.fr hf h.2, h.2⟩
theorem RdX.fr0 {w w' : World} {M : List Nat} {A : Option Addr} {bs : List UInt8} (h : RdX w M A bs) (hf : Fr [] w w') : RdX w' M A bs := by
  rcases h with rfl | h
  · exact .inl rfl
  · exact .inr ⟨h.1.fr0 hf, h.2⟩
/-- bytes that lie where nothing new can -/
theorem RdX.old {w w' : World} {A : Option Addr} {bs : List UInt8} {d : Nat} (h : Rd w A (bs.map vb)) (hf : Fr [] w w') (hd : w.heap.size ≤ d) : RdX w' [d] A bs := by
  cases bs with
  | nil => exact .inl rfl
  | cons b bs =>
    refine .inr ⟨h.fr0 hf, ?_⟩
    rintro a rfl hm
    have := Rd.lt (x := vb b) (xs := bs.map vb) h
    simp only [List.mem_singleton] at hm
    omega
/-- a list of lists of bytes that is read, none of it in block d -/
def RdL (w : World) (d : Nat) (A : Option Addr) (L : List (List UInt8)) : Prop :=
  ∀ j bs, L[j]? = some bs → A.isSome = true ∧ (adr A).block ≠ d ∧ ∃ Ai ci, w.cell? ((adr A).add j) = some (.slice Ai bs.length ci) ∧ RdX w [d] Ai bs
theorem RdL.fr {w w' : World} {d : Nat} {A : Option Addr} {L : List (List UInt8)} (h : RdL w d A L) (hf : Fr [d] w w') : RdL w' d A L := by
  intro j bs hj
  obtain ⟨h1, h2, Ai, ci, h3, h4⟩ := h j bs hj
  exact ⟨h1, h2, Ai, ci, hf.cell h3 (by rw [block_add]; simpa using h2), h4.fr hf trivial⟩
theorem RdL.fr0 {w w' : World} {d : Nat} {A : Option Addr} {L : List (List UInt8)} (h : RdL w d A L) (hf : Fr [] w w') : RdL w' d A L := h.fr (hf.mono (by simp))
theorem RdLL.old {w w' : World} {A : Option Addr} {L : List (List UInt8)} {d : Nat} (h : RdLL w A L) (hf : Fr [] w w') (hd : w.heap.size ≤ d) : RdL w' d A L := by
  intro j bs hj
  obtain ⟨h1, Ai, ci, h3, h4⟩ := h j bs hj
  refine ⟨h1, ?_, Ai, ci, hf.cell h3 (by simp), RdX.old h4 hf hd⟩
  have := World.block_lt_of_cell? w _ h3
  rw [block_add] at this
  omega
/-- the literal's cells -/
def litC : List (Option Addr × Nat × Nat) → List Value := List.map fun p => .slice p.1 p.2.1 p.2.2
theorem RdL.lit {w : World} {d b t : Nat} {cs : List Value} (hb : Blk w b t cs) (hne : b ≠ d) : ∀ (L : List (List UInt8)) (ps : List (Option Addr × Nat)), cs = (List.zip ps L).map (fun p => .slice p.1.1 p.2.length p.1.2) → ps.length = L.length → (∀ p ∈ List.zip ps L, RdX w [d] p.1.1 p.2) → RdL w d (some ⟨b, 0, none⟩) L := by
  intro L ps hc hl hx j bs hj
  refine ⟨rfl, hne, ?_⟩
  have hjl : j < L.length := (List.getElem?_eq_some_iff.1 hj).1
  have hp : ps[j]? = some ps[j] := List.getElem?_eq_getElem (by omega)
  have hz : (List.zip ps L)[j]? = some (ps[j], bs) := by rw [List.getElem?_zip_eq_some]; exact ⟨hp, hj⟩
  refine ⟨ps[j].1, ps[j].2, ?_, hx _ (List.mem_of_getElem? hz)⟩
  simp only [adr, Option.getD_some, add_flat, Nat.zero_add]
  refine hb.at_ ?_
  rw [hc, List.getElem?_map, hz]
  rfl
end Go.Sx
namespace Go.Sx
open Go
theorem rest_app {w' w0 : World} {B : Nat} {A A' : Option Addr} {r bs : List UInt8} {c' : Nat} {e : TypeId} (he : e = 5) (h : RestIs w' B A r)
    (hW : (bs.length = 0 ∧ A' = A ∧ c' = r.length ∧ w' = w0) ∨ (0 < bs.length ∧ Own w' B e 1 A' (r.length + bs.length) c' (r.map vb ++ bs.map vb))) : RestIs w' B A' (r ++ bs) ∧ (r ++ bs).length ≤ c' := by
  subst he
  rcases hW with ⟨h0, rfl, rfl, _⟩ | ⟨_, hO⟩
  · have : bs = [] := List.eq_nil_of_length_eq_zero h0
    subst this
    simpa using h
  · rw [← List.map_append] at hO
    refine ⟨RestIs.ofOwn hO, ?_⟩
    rw [List.length_append]
    exact hO.cap
end Go.Sx
namespace Go.Sx
open Go
theorem rest_some {w : World} {B : Nat} {A : Option Addr} {r : List UInt8} (h : RestIs w B A r) (hr : 0 < r.length) : ∃ g o cs, A = some ⟨g, o, none⟩ ∧ B ≤ g ∧ Blk w g 5 cs ∧ (cs.drop o).take r.length = r.map vb := by
  rcases h with ⟨_, rfl⟩ | h
  · simp at hr
  · exact h
theorem rest_drop {w : World} {B g o : Nat} {cs : List Value} {r : List UInt8} (hg : B ≤ g) (hB : Blk w g 5 cs) (h : (cs.drop o).take r.length = r.map vb) (k : Nat) : RestIs w B (some ⟨g, o + k * 1, none⟩) (r.drop k) := by
  refine .inr ⟨g, o + k * 1, cs, rfl, hg, hB, ?_⟩
  rw [Nat.mul_one, List.length_drop, List.map_drop, ← h, List.drop_take, List.drop_drop]
end Go.Sx
namespace Go.Sx
theorem take_fold {D : Bl.D} {L : List (List UInt8)} {i : Nat} (hi : i < L.length) : (L.take (i + 1)).foldl Bl.add D = Bl.add ((L.take i).foldl Bl.add D) L[i] := by
  rw [List.take_succ_eq_append_getElem hi, List.foldl_append]; rfl
end Go.Sx
namespace Go.Sx
theorem start_wrap (h : List (BitVec 32)) (n : Nat) (l : Bool) : Bl.start h (BitVec.ofNat 64 n).toNat l = Bl.start h n l := by
  have e1 : BitVec.ofNat 32 (BitVec.ofNat 64 n).toNat = BitVec.ofNat 32 n := by
    apply BitVec.eq_of_toNat_eq; simp
  have e2 : BitVec.ofNat 32 ((BitVec.ofNat 64 n).toNat / 4294967296) = BitVec.ofNat 32 (n / 4294967296) := by
    apply BitVec.eq_of_toNat_eq; simp; omega
  unfold Bl.start
  rw [e1, e2]
theorem mix_wrap (h : List (BitVec 32)) (b : List UInt8) (n : Nat) (l : Bool) : Bl.mix h b (BitVec.ofNat 64 n).toNat l = Bl.mix h b n l := by
  unfold Bl.mix; rw [start_wrap]
theorem mix_len (h : List (BitVec 32)) (b : List UInt8) (n : Nat) (l : Bool) : (Bl.mix h b n l).length = 8 := by simp [Bl.mix]
end Go.Sx
namespace Go.Sx
open Go
theorem rest_cut {w : World} {B g o : Nat} {r : List UInt8} (h : RestIs w B (some ⟨g, o, none⟩) r) (k : Nat) : RestIs w B (some ⟨g, o + k * 1, none⟩) (r.drop k) := by
  rcases h with ⟨h, _⟩ | ⟨g', o', cs, h, hg, hB, hr⟩
  · cases h
  · cases h
    exact rest_drop hg hB hr k
end Go.Sx
namespace Go.Sx
open Go
theorem RdX.of {w : World} {A : Option Addr} {bs : List UInt8} {d n : Nat} (h : Rd w A (bs.map vb)) (ho : ∀ i ∈ blkOf A, i < n) (hd : n ≤ d) : RdX w [d] A bs := by
  refine .inr ⟨h, ?_⟩
  rintro a rfl hm
  have := ho a.block (by simp [blkOf])
  simp only [List.mem_singleton] at hm
  omega
end Go.Sx
