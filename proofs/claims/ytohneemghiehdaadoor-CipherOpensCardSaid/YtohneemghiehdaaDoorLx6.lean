/- Rules: slices of an array; make with a length; an object that is frozen. -/
import Derived.Test.YtohneemghiehdaaDoorLx5
import Derived.Deep.OwnRows
import Derived.Laws.OwnMore
set_option linter.unusedVariables false
set_option linter.unusedSimpArgs false
namespace Go.Lx
open Go Go.Sx
theorem blk_rd {w : World} {d t : Nat} {cs : List Value} (h : Blk w d t cs) : Rd w (some ⟨d, 0, none⟩) cs := fun j v hv => ⟨rfl, by
  simp only [adr, Option.getD_some, add_flat, Nat.zero_add]
  exact h.at_ hv⟩
theorem Tok.freeze {α : Type} [Sc α] {G : Gh} {w0 w : World} {M : List Nat} {L H : Gh} {d t : Nat} {xs : List α} (h : Tok H w d t (xs.map Sc.enc)) (hd : w0.heap.size ≤ d) (hI : Inv M G w0 L H w) :
    ∃ L2 H2, Inv M G w0 L2 H2 w ∧ Up [d] L H w L2 H2 w ∧ Sl L2 (some ⟨d, 0, none⟩) xs := by
  have hr := blk_rd h.blk
  have hb : ∀ a v, cellsG (some ⟨d, 0, none⟩) (xs.map Sc.enc) a v → a.block = d := fun a v k => by have := cellsG_blk k; simpa [blkOf] using this
  refine ⟨L.or (cellsG (some ⟨d, 0, none⟩) (xs.map Sc.enc)), H.or (cellsG (some ⟨d, 0, none⟩) (xs.map Sc.enc)),
    ⟨hI.fr, fun a v k => k.elim (hI.st a v) (cellsG_st hr a v), hI.le.trans (Le.l _ _), fun a v k => k.elim (fun k => .inl (hI.sub a v k)) .inr, fun a v k hlt => k.elim (fun k => hI.new a v k hlt) fun k => absurd (hb a v k) (by omega), fun a v k => k.elim (hI.lnew a v) fun k => by rw [hb a v k]; exact hd⟩,
    ⟨Fr.refl _ _, Le.l _ _, Le.l _ _, fun a v k _ => k.elim .inl fun k => .inr (by rw [hb a v k]; simp)⟩, Sl.ofFz ((cellsG_fz hr).up (Le.r _ _))⟩
theorem len_take {α : Type} {xs : List α} {n h : Nat} (hn : xs.length = n) (hh : h ≤ n) : (xs.take h).length = h := by rw [List.length_take]; omega
section
variable {P : Program} {w : World} {E : Env} {dst : Option Nat} {ty : TypeId} {pos : String} {after : Array Edge} {guard : Option (Nat × Bool)} {x y : Operand} {t : TypeId}
theorem X_sliceArr {α : Type} {e sz0 len h b : Nat} {hi : Option Operand} {ys : List α} (hu : P.underlying t = some (.array len e)) (hs : sz P e = some sz0) (hx : ev E x = some (.pointer (some ⟨b, 0, none⟩))) (hh : Bnd E hi h len) (h2 : h ≤ len) (hy : ys.length = h) :
    Runs P w E ⟨dst, .slice t x none hi none, ty, pos, after, guard⟩ (.slice (some ⟨b, 0, none⟩) ys.length len) := by
  have := R_sliceArr (w := w) (dst := dst) (ty := ty) (pos := pos) (after := after) (guard := guard) (lo := none) (l := 0) hu hs hx rfl hh (Nat.zero_le _) h2
  rw [Nat.zero_mul, Nat.sub_zero, Nat.sub_zero] at this
  rw [hy]
  have e : (if len = 0 then (⟨b, 0, none⟩ : Addr) else ⟨b, 0 + 0, none⟩) = ⟨b, 0, none⟩ := by split <;> rfl
  rwa [e] at this
theorem X_makeZ {α : Type} [Sc α] {e bytes n : Nat} {z : α} (hu : P.underlying t = some (.slice e)) (hi : (P.info? e).map (fun i => (i.zero, i.size, i.bytes)) = some (some (Sc.enc z), 1, bytes)) (hz1 : (Sc.enc z).cells = #[Sc.enc z])
    (hl : ev E x = some (vi n)) (hc : ev E y = some (vi n)) (hb : bytes * n ≤ 281474976710656) (h63 : n ≤ 9223372036854775807) :
    RunsTo P w E ⟨dst, .makeSlice t x y, ty, pos, after, guard⟩ (fun u w' => ∃ b, u = .slice (some ⟨b, 0, none⟩) n n ∧ b = w.heap.size ∧ Blk w' b e ((List.replicate n z).map Sc.enc) ∧ Fr [] w w') := fun a N ha => by
  have hr := run_make_row' t e (Sc.enc z) bytes hu hi hz1 .i64 .i64 n hb h63 w
  refine ⟨.slice (some ⟨w.heap.size, 0, none⟩) n n, w.alloc (.cells (madeCells #[Sc.enc z] n) e), ⟨w.heap.size, rfl, rfl, ?_, Fr.alloc _ _⟩, .inl ?_⟩
  · have e1 : (madeCells #[Sc.enc z] n) = ((List.replicate n z).map Sc.enc).toArray := by
      apply Array.ext'
      rw [toList_madeCells_one, List.map_replicate]
    rw [e1]
    exact Blk.new w e _
  · simp only [execOp, ha.eval hl, ha.eval hc, Sem.run_bind]
    rw [hr]
    rfl
end
end Go.Lx
