/- LX, third part: operations on slices, strings, blocks. -/
import Derived.Test.YtohneemghiehdaaDoorLx1
import Derived.Test.YtohneemghiehdaaDoorLx2
set_option linter.unusedVariables false
set_option linter.unusedSimpArgs false
namespace Go.Lx
open Go Go.Sx

section
variable {P : Program} {N : Nat} {E : Env} {w : World} {K : Post}
/-- what follows, once, for all ways to it: I: what the slots ts have -/
theorem W_seq_join {x y : Code} (keep ts : List Nat) (I : List Value → World → Prop)
    (hx : ∀ B, B = pickE E keep → W P N x E w (thenP (fun E2 w2 => ∃ vs, lookL E2 ts = some vs ∧ I vs w2 ∧ Sub B E2) K))
    (hy : ∀ B, B = pickE E keep → ∀ vs w', I vs w' → W P N y (zipE ts vs ++ B) w' K) : W P N (.seq x y) E w K :=
  W_seq ((hx _ rfl).mono fun e E2 w2 h => by
    cases e with
    | normal => obtain ⟨vs, hl, hI, hs⟩ := h; exact W_sub (sub_zip ts vs _ _ hl hs) (hy _ rfl vs w2 hI)
    | _ => exact h)
end

section
variable {P : Program} {N : Nat} {E : Env} {w : World} {K : Post} {ds : List (Option Nat)} {rest : List Oper} {ops : Array Oper} {T : Facts} {s : Todo}
/-- a slot's value, written otherwise -/
theorem Ops_re (t : Nat) {v v' : Value} (hv : lookE E t = some v) (e : v = v') (h : Ops P N ds rest ((t, v') :: E) w K) : Ops P N ds rest E w K := fun ops hds a ha => h ops hds a (ha.sub' (e ▸ hv))
theorem HS_re (t : Nat) {v v' : Value} (hv : lookE E t = some v) (e : v = v') (h : HS P N ops ds T s ((t, v') :: E) w K) : HS P N ops ds T s E w K := fun a listed ha => h a listed (ha.sub' (e ▸ hv))
end

section
variable {P : Program} {w : World} {E : Env} {dst : Option Nat} {ty : TypeId} {pos : String} {after : Array Edge} {guard : Option (Nat × Bool)} {x y s : Operand} {t t' : TypeId}
variable {B n m c size e : Nat} {A : Option Addr} {xs ys : List Value}

theorem R_append2 {bytes : Nat} {tx : TypeId} {m : Nat} {v : Value} (el : Elem P t e size bytes) (hs : ev E s = some (.slice A n c)) (hx : ev E x = some v) (hown : Own w B e size A n c xs) (hsrc : Src P size tx v m ys w)
    (hbytes : (n + m) * bytes ≤ 140737488355328) (h63 : n + m ≤ maxLen) (hbase : B ≤ w.heap.size) :
    RunsTo P w E ⟨dst, .call { callee := .builtin .append, args := #[s, x], argTypes := #[t, tx] }, ty, pos, after, guard⟩ (fun u w' => ∃ A' c', u = .slice A' (n + m) c' ∧ Own w' B e size A' (n + m) c' (xs ++ ys) ∧ Fr (blkOf A) w w' ∧ (A' = A ∨ ∀ b ∈ blkOf A', w.heap.size ≤ b)) := fun a N hA => by
  obtain ⟨i, z, hi, hz, rfl, rfl, hzs⟩ := el.row
  have hlen : (xs ++ ys).length = (n + m) * i.size := by rw [List.length_append, hown.len, hsrc.newsLen, Nat.add_mul]
  have hsm : n + m ≤ 9223372036854775807 := by simp only [maxLen] at h63; omega
  suffices h : ∃ u w', (∃ A' c', u = .slice A' (n + m) c' ∧ Own w' B e i.size A' (n + m) c' (xs ++ ys) ∧ Fr (blkOf A) w w' ∧ (A' = A ∨ ∀ b ∈ blkOf A', w.heap.size ≤ b)) ∧ (Builtin.append_ #[t, tx] ty #[.slice A n c, v]).run P w = .ok u w' by
    obtain ⟨u, w', h1, h2⟩ := h
    exact ⟨u, w', h1, .inl (by simp [execOp, resolve, invoke, builtin, hA.eval hs, hA.eval hx, h2])⟩
  rcases hown.form with ⟨rfl, rfl, rfl, rfl⟩ | ⟨g, cur, rfl, hb, hB, h1, h3, h4, h5⟩
  · by_cases hm : m = 0
    · subst hm
      have hy : ys = [] := List.eq_nil_of_length_eq_zero (by simpa using hsrc.newsLen)
      subst hy
      exact ⟨_, w, ⟨none, 0, rfl, Own.nil .., Fr.refl _ _, .inl rfl⟩, run_append_nothing w t tx ty e i el.under hi none 0 0 (Nat.le_refl _) v hsrc⟩
    · have hr := run_append_grow_src (P := P) w t tx ty e i z el.under hi hz none 0 0 [] (run_firstCells_none w.drew i.size 0 0 0) v m ys hsrc (by omega) (by omega) (growslice_fits (by omega) hbytes)
      exact ⟨_, _, ⟨_, _, rfl, grown_own (t := t) el w B hbase 0 [] ys (0 + m) (by omega) h63 hlen z hzs, ((Fr.drew w).then0 (Fr.alloc _ _)).mono (by simp), .inr (by simp [blkOf])⟩, hr⟩
  · by_cases hroom : n + m ≤ c
    · have hfit : n * i.size + ys.length ≤ cur.length := by rw [hsrc.newsLen, h4, ← Nat.add_mul]; exact Nat.mul_le_mul_right _ hroom
      have hst := run_storeCells_at (P := P) g (n * i.size) e ys 0 cur.toArray w hB (by simpa using hfit) hsrc.one
      simp only [Nat.add_zero] at hst
      have hr : (Builtin.append_ #[t, tx] ty #[.slice (some ⟨g, 0, none⟩) n c, v]).run P w = .ok (.slice (some ⟨g, 0, none⟩) (n + m) c) (w.setRow g (over cur (n * i.size) ys).toArray) := by
        rcases hsrc.kind with ⟨e', hk⟩ | hk <;>
          simp [Builtin.append_, run_underlying el.under, run_underlying hk, sizeOf, typeInfo, hi, hsrc.len, hroom, hsrc.cells, add_flat, hst, over]
      refine ⟨_, _, ⟨_, _, rfl, Own.mk hb (blk_setRow hB) hroom h3 ?_ ?_, by simpa [blkOf] using fr_setRow w g _, .inl rfl⟩, hr⟩
      · simp only [over, List.length_append, List.length_take, List.length_drop]
        omega
      · rw [over, h5, ← hlen]
        exact List.take_left
    · have hold : (Builtin.firstCells i.size n (.slice (some ⟨g, 0, none⟩) n c)).run P w.drew = .ok xs.toArray w.drew :=
        run_firstCells_some w.drew i.size n ⟨g, 0, none⟩ n c xs hown.len (by have := hown.rd.cells; simpa using this)
      have hr := run_append_grow_src (P := P) w t tx ty e i z el.under hi hz (some ⟨g, 0, none⟩) n c xs hold v m ys hsrc (by omega) (by omega) (growslice_fits (by omega) hbytes)
      exact ⟨_, _, ⟨_, _, rfl, grown_own (t := t) el w B hbase c xs ys (n + m) (by omega) h63 hlen z hzs, ((Fr.drew w).then0 (Fr.alloc _ _)).mono (by simp), .inr (by simp [blkOf])⟩, hr⟩
end

section
variable {P : Program} {w w' : World} {E : Env} {dst : Option Nat} {ty : TypeId} {pos : String} {after : Array Edge} {guard : Option (Nat × Bool)} {x y s : Operand} {t t' : TypeId}
variable {α : Type} [Rp α] {B e c bytes : Nat} {Eg L H G : Gh} {A : Option Addr} {xs ys : List α}

/-- what is appended: a slice's elements -/
structure Srcs (P : Program) (tx : TypeId) (G : Gh) (w : World) (v : Value) (ys : List α) : Prop where
  src : ∃ dss, All2 (Rp.cs G) ys dss ∧ Src P (Rp.n α) tx v ys.length dss.flatten w
theorem Srcs.ofSl {tx e' : TypeId} {m : Nat} (hk : P.underlying tx = some (.slice e')) (h : Sl G A ys) (hs : St G w) (h0 : 0 < Rp.n α) : Srcs P tx G w (.slice A ys.length m) ys := by
  obtain ⟨css, h1, h2⟩ := h
  exact ⟨css, h1, Src.ofRd hk h0 (h2.rd hs) (flat_len h1) (flat_one h1)⟩
theorem Srcs.ofOwn {tx e' : TypeId} {m B e : Nat} (hk : P.underlying tx = some (.slice e')) (h : OwnS B e G H w A m ys) (h0 : 0 < Rp.n α) : Srcs P tx G w (.slice A ys.length m) ys := by
  obtain ⟨css, h1, h2, _⟩ := h
  exact ⟨css, h1, Src.ofRd hk h0 h2.rd (flat_len h1) (flat_one h1)⟩
theorem Srcs.nil {tx e' : TypeId} {m : Nat} (hk : P.underlying tx = some (.slice e')) : Srcs P tx G w (.slice none 0 m) ([] : List α) := ⟨[], .nil, by simpa using Src.ofNil _ hk m⟩
theorem Srcs.up {tx : TypeId} {v : Value} {G' : Gh} (h : Srcs P tx G w v ys) (hl : Le G G') : Srcs P tx G' w v ys := ⟨_, h.src.choose_spec.1.mono fun _ _ => Rp.mono hl, h.src.choose_spec.2⟩
theorem Srcs.ofStr {tx : TypeId} (hk : P.underlying tx = some .string) (s : Str) : Srcs P tx G w (vs s) s.b := by
  refine ⟨_, all2_sc' s.b, ?_⟩
  rw [flat_sc]
  have h := Src.ofString (w := w) hk ⟨s.b.toArray⟩
  have e1 : byteCells ⟨s.b.toArray⟩ = s.b.map Sc.enc := by simp [byteCells, Sc.enc]
  have e2 : (⟨s.b.toArray⟩ : ByteArray).size = s.b.length := by simp [ByteArray.size]
  rw [e1, e2] at h
  exact h

theorem Srcs.sc {α : Type} [Sc α] {tx : TypeId} {v : Value} {G G' : Gh} {ys : List α} (h : Srcs P tx G w v ys) : Srcs P tx G' w v ys := by
  obtain ⟨dss, h1, h2⟩ := h.src
  exact ⟨dss, by rw [all2_sc h1]; exact all2_sc' ys, h2⟩

theorem X_append {tx : TypeId} {v : Value} (el : Elem P t e (Rp.n α) bytes) (hs : ev E s = some (.slice A xs.length c)) (hx : ev E x = some v) (hown : OwnS B e Eg H w A c xs) (hsrc : Srcs P tx Eg w v ys)
    (hst : St H w) (hbytes : Rm bytes (xs.length + ys.length)) (hb1 : 1 ≤ bytes) (hbase : B ≤ w.heap.size) :
    RunsTo P w E ⟨dst, .call { callee := .builtin .append, args := #[s, x], argTypes := #[t, tx] }, ty, pos, after, guard⟩ (fun u w' => ∃ A' c', u = .slice A' (xs ++ ys).length c' ∧ OwnS B e Eg H w' A' c' (xs ++ ys) ∧ Fr (bk A c) w w' ∧ ∀ i ∈ bk A' c', i ∈ bk A c ∨ w.heap.size ≤ i) := fun a N ha => by
  obtain ⟨css, h1, h2, h3⟩ := hown
  obtain ⟨dss, h4, h5⟩ := hsrc.src
  have h63 : xs.length + ys.length ≤ maxLen := by
    have := Nat.mul_le_mul_left (xs.length + ys.length) hb1
    unfold Rm at hbytes
    simp only [maxLen]; omega
  rcases h2 with ⟨rfl, hx0, hc0⟩ | ⟨hpos, h2⟩
  · obtain rfl : xs = [] := List.eq_nil_of_length_eq_zero hx0
    rw [hc0] at *
    obtain ⟨v', w2, ⟨A', c', hv, hrd, hf, hor⟩, hr⟩ := R_appendTight (dst := dst) (ty := ty) (pos := pos) (after := after) (guard := guard) (B := w.heap.size) (n := 0) (xs := []) el hs hx (Rd.nil _ _) (by simp) h5 (by simpa [Rm] using hbytes) (by simpa using h63) (Nat.le_refl _) a N ha
    rcases hor with ⟨h0, rfl, rfl, rfl⟩ | ⟨_, ho⟩
    · obtain rfl : ys = [] := List.eq_nil_of_length_eq_zero h0
      exact ⟨v', w2, ⟨A', 0, by simpa using hv, by simpa using OwnS.zero, by simpa [bk] using hf, by simp [bk]⟩, hr⟩
    · refine ⟨v', w2, ⟨A', c', by simpa using hv, ⟨dss, by simpa using h4, OwnX.of ?_, fun b hb => Out.ge hst (ho.off b (bk_of hb).1)⟩, by simpa [bk] using hf, fun i hi => .inr (ho.off i (bk_of hi).1)⟩, hr⟩
      have h6 : Own w2 w.heap.size e (Rp.n α) A' ys.length c' dss.flatten := by simpa using ho
      have h7 := (show OwnS w.heap.size e Eg H w2 A' c' ys from ⟨dss, h4, OwnX.of h6, fun b hb => Out.ge hst (h6.off b (bk_of hb).1)⟩)
      rcases h6.form with ⟨rfl, hn, hc, hx⟩ | ⟨g, cur, rfl, hg, hB, hn, hm, hl, ht⟩
      · rw [hc, hx]; simp only [List.nil_append, hn]; exact Own.nil _ _ _ _
      · simp only [List.nil_append]; exact Own.mk (Nat.le_trans hbase hg) hB hn hm hl ht
  · obtain ⟨v', w2, ⟨A', c', hv, ho, hf, hn⟩, hr⟩ := R_append2 (dst := dst) (ty := ty) (pos := pos) (after := after) (guard := guard) el hs hx h2 h5 hbytes h63 hbase a N ha
    refine ⟨v', w2, ⟨A', c', by rw [hv, List.length_append], ⟨css ++ dss, h1.app h4, OwnX.of (by rw [List.flatten_append, List.length_append]; exact ho), fun b hb => ?_⟩, hf.mono fun i hi _ => bk_to hi hpos, fun i hi => hn.elim (fun e => .inl (bk_to (e ▸ (bk_of hi).1) hpos)) fun hn => .inr (hn i (bk_of hi).1)⟩, hr⟩
    rcases hn with rfl | hn
    · exact h3 b (bk_to (bk_of hb).1 hpos)
    · exact Out.ge hst (hn b (bk_of hb).1)

/-- to nil -/
theorem X_appendNil {tx : TypeId} {v : Value} {c : Nat} (el : Elem P t e (Rp.n α) bytes) (hs : ev E s = some (.slice none 0 0)) (hx : ev E x = some v) (hsrc : Srcs P tx Eg w v ys)
    (hst : St H w) (hbytes : Rm bytes ys.length) (hb1 : 1 ≤ bytes) (hbase : B ≤ w.heap.size) :
    RunsTo P w E ⟨dst, .call { callee := .builtin .append, args := #[s, x], argTypes := #[t, tx] }, ty, pos, after, guard⟩ (fun u w' => ∃ A' c', u = .slice A' ys.length c' ∧ OwnS B e Eg H w' A' c' ys ∧ Fr [] w w') := fun a N ha => by
  obtain ⟨v', w2, ⟨A', c', hv, ho, hf, _⟩, hr⟩ := X_append (dst := dst) (ty := ty) (pos := pos) (after := after) (guard := guard) (xs := ([] : List α)) el hs hx OwnS.nil hsrc hst (by simpa using hbytes) hb1 hbase a N ha
  exact ⟨v', w2, ⟨A', c', by simpa using hv, by simpa using ho, by simpa [bk] using hf⟩, hr⟩

/-- to a slice without spare room; something is appended -/
theorem X_appendTight {tx : TypeId} {v : Value} {n : Nat} (el : Elem P t e (Rp.n α) bytes) (hn : n = xs.length) (hs : ev E s = some (.slice A n n)) (hx : ev E x = some v) (hR : Sl Eg A xs) (hsrc : Srcs P tx Eg w v ys) (hpos : 0 < ys.length)
    (hst : St H w) (hstE : St Eg w) (hbytes : Rm bytes (xs.length + ys.length)) (hb1 : 1 ≤ bytes) (hbase : B ≤ w.heap.size) :
    RunsTo P w E ⟨dst, .call { callee := .builtin .append, args := #[s, x], argTypes := #[t, tx] }, ty, pos, after, guard⟩ (fun u w' => ∃ A' c', u = .slice A' (xs ++ ys).length c' ∧ OwnS B e Eg H w' A' c' (xs ++ ys) ∧ Fr [] w w') := fun a N ha => by
  subst hn
  obtain ⟨css, h1, h2⟩ := hR
  obtain ⟨dss, h4, h5⟩ := hsrc.src
  have h63 : xs.length + ys.length ≤ maxLen := by
    have := Nat.mul_le_mul_left (xs.length + ys.length) hb1
    unfold Rm at hbytes
    simp only [maxLen]; omega
  obtain ⟨v', w2, ⟨A', c', hv, _, hf, hor⟩, hr⟩ := R_appendTight (dst := dst) (ty := ty) (pos := pos) (after := after) (guard := guard) (B := w.heap.size) el hs hx (h2.rd hstE) (flat_len h1) h5 hbytes h63 (Nat.le_refl _) a N ha
  rcases hor with ⟨h0, _⟩ | ⟨_, ho⟩
  · omega
  · have hO : OwnS w.heap.size e Eg H w2 A' c' (xs ++ ys) := ⟨css ++ dss, h1.app h4, OwnX.of (by rw [List.flatten_append, List.length_append]; exact ho), fun b hb => Out.ge hst (ho.off b (bk_of hb).1)⟩
    exact ⟨v', w2, ⟨A', c', by rw [hv, List.length_append], hO.le hbase, hf⟩, hr⟩

theorem X_make0 {n : Int} (el : Elem P t e (Rp.n α) bytes) (hl : ev E x = some (vi 0)) (hc : ev E y = some (vi n)) (h0 : 0 ≤ n) (hst : St H w) (hbytes : Rm bytes n.toNat) (hb1 : 1 ≤ bytes) (hbase : B ≤ w.heap.size) :
    RunsTo P w E ⟨dst, .makeSlice t x y, ty, pos, after, guard⟩ (fun u w' => ∃ A' c', u = .slice A' ([] : List α).length c' ∧ OwnS B e Eg H w' A' c' ([] : List α) ∧ Fr [] w w') := fun a N ha => by
  obtain ⟨i, z, hi, hz, hsz, rfl, hzs⟩ := el.row
  unfold Rm at hbytes
  have h63 : n.toNat ≤ maxLen := by
    have := Nat.mul_le_mul_left n.toNat hb1
    simp only [maxLen]; omega
  obtain ⟨w2, hr, ho, hg⟩ := run_make_own (P := P) w w.heap.size t e i z (Rp.n α) el.under hi hz hsz .i64 .i64 n.toNat (by rw [Nat.mul_comm]; omega) h63 (Nat.le_refl _)
  have ho' : Own w2 w.heap.size e (Rp.n α) (some ⟨w.heap.size, 0, none⟩) 0 n.toNat [] := ho
  have hO : OwnS w.heap.size e Eg H w2 (some ⟨w.heap.size, 0, none⟩) n.toNat ([] : List α) := ⟨[], .nil, OwnX.of (by simpa using ho'), fun b hb => Out.ge hst (ho'.off b (bk_of hb).1)⟩
  refine ⟨_, w2, ⟨_, _, rfl, hO.le hbase, by simpa using Fr.grown hg⟩, .inl ?_⟩
  rw [Int.toNat_of_nonneg h0] at hr
  simp [execOp, ha.eval hl, ha.eval hc, hr]

theorem X_slice0 {β : Type} {A : Option Addr} {zs : List β} {e sz0 c : Nat} {lo hi mx : Option Operand} (hu : P.underlying t = some (.slice e)) (hs : sz P e = some sz0) (hx : ev E x = some (.slice A zs.length c)) (hcap : zs.length ≤ c)
    (hl : match lo with | none => True | some o => ev E o = some (vi 0)) (hh : match hi with | none => False | some o => ev E o = some (vi 0)) (hm : match mx with | none => False | some o => ev E o = some (vi 0)) :
    Runs P w E ⟨dst, .slice t x lo hi mx, ty, pos, after, guard⟩ (.slice A 0 0) := by
  refine R_slice (w := w) hu hs hx (l := 0) (h := 0) (m := 0) ?_ ?_ ?_ (by cases hi with | none => exact hh.elim | some o => simp) (by omega) (by omega) (by omega)
  · cases lo with
    | none => rfl
    | some o => exact ⟨_, _, hl, by omega⟩
  · cases hi with
    | none => exact hh.elim
    | some o => exact ⟨_, _, hh, by omega⟩
  · cases mx with
    | none => exact hm.elim
    | some o => exact ⟨_, _, hm, by omega⟩
/-- a new block that is just a slice's -/
theorem OwnS.ofBlk {b : Nat} {cs : List Value} {css : List (List Value)} (hst : St H w) (hb : b = w.heap.size) (hB : Blk w' b e cs) (hc : All2 (Rp.cs Eg) xs css) (he : css.flatten = cs) (hbase : B ≤ b) (hm : xs.length ≤ maxLen) : OwnS B e Eg H w' (some ⟨b, 0, none⟩) xs.length xs := by
  refine ⟨css, hc, OwnX.of (Own.mk hbase hB (Nat.le_refl _) hm ?_ ?_), ?_⟩
  · rw [← he, flat_len hc]
  · rw [← he, ← flat_len hc, List.take_length]
  · intro i hi; have := (bk_of hi).1; simp only [blkOf, List.mem_singleton] at this; subst this; exact Out.ge hst (by omega)

def SlOf (A : Option Addr) (c : Nat) (l : Int) (n : Nat) (A' : Option Addr) (c' : Nat) : Prop := A' = (if c = l.toNat then A else A.map (fun a => a.add (l.toNat * n))) ∧ c' = c - l.toNat
def SlOf3 (A : Option Addr) (l h : Int) (n : Nat) (A' : Option Addr) : Prop := A' = (if h.toNat = l.toNat then A else A.map (fun a => a.add (l.toNat * n)))
theorem cut_len {β : Type} {zs : List β} {l h : Int} (h0 : 0 ≤ l) (h1 : l ≤ h) (h2 : h ≤ (zs.length : Int)) : (cut zs l h).length = h.toNat - l.toNat := by simp only [cut, List.length_take, List.length_drop]; omega
theorem cut_ex {n c : Nat} {l h : Int} (hS : Sl G A xs) (hn : Rp.n α = n) (hn0 : 0 < n) (hcap : xs.length ≤ c) (h0 : 0 ≤ l) (h1 : l ≤ h) (h2 : h ≤ (xs.length : Int)) :
    ∃ A' c', SlOf A c l n A' c' ∧ (cut xs l h).length ≤ c' ∧ Sl G A' (cut xs l h) := by
  subst hn
  refine ⟨_, _, ⟨rfl, rfl⟩, by rw [cut_len h0 h1 h2]; omega, (hS.drop (c = l.toNat) l.toNat (by omega) hn0).take _⟩
theorem cut_ex3 {n : Nat} {l h : Int} (hS : Sl G A xs) (hn : Rp.n α = n) (hn0 : 0 < n) (h0 : 0 ≤ l) (h1 : l ≤ h) (h2 : h ≤ (xs.length : Int)) :
    ∃ A', SlOf3 A l h n A' ∧ Sl G A' (cut xs l h) := by
  subst hn
  refine ⟨_, rfl, ?_⟩
  by_cases hz : h.toNat = l.toNat
  · have : cut xs l h = [] := by simp [cut, hz]
    rw [this]; exact Sl.nil
  · exact (hS.drop (h.toNat = l.toNat) l.toNat (fun e => absurd e hz) hn0).take _
theorem X_slice {β : Type} {A : Option Addr} {xs : List β} {e sz0 c c' : Nat} {A' : Option Addr} {lo hi : Option Operand} {l h : Int} (hu : P.underlying t = some (.slice e)) (hs : sz P e = some sz0) (hx : ev E x = some (.slice A xs.length c)) (hso : SlOf A c l sz0 A' c') (hcap : xs.length ≤ c)
    (hl : match lo with | none => l = 0 | some o => ev E o = some (vi l)) (hh : match hi with | none => h = (xs.length : Int) | some o => ev E o = some (vi h)) (h0 : 0 ≤ l) (h1 : l ≤ h) (h2 : h ≤ (xs.length : Int)) :
    Runs P w E ⟨dst, .slice t x lo hi none, ty, pos, after, guard⟩ (.slice A' (cut xs l h).length c') := by
  obtain ⟨rfl, rfl⟩ := hso
  rw [cut_len h0 h1 h2]
  refine R_slice (w := w) hu hs hx (l := l.toNat) (h := h.toNat) (m := c) ?_ ?_ rfl (by simp) (by omega) (by omega) (Nat.le_refl _)
  · cases lo with
    | none => subst hl; rfl
    | some o => exact ⟨_, _, hl, by omega⟩
  · cases hi with
    | none => have hh' : h = (xs.length : Int) := hh; show h.toNat = xs.length; omega
    | some o => exact ⟨_, _, hh, by omega⟩
/-- up to the capacity that is given -/
theorem X_slice3 {β : Type} {A : Option Addr} {xs : List β} {e sz0 c : Nat} {A' : Option Addr} {lo hi mx : Option Operand} {l h : Int} (hu : P.underlying t = some (.slice e)) (hs : sz P e = some sz0) (hx : ev E x = some (.slice A xs.length c)) (hso : SlOf3 A l h sz0 A') (hcap : xs.length ≤ c)
    (hl : match lo with | none => l = 0 | some o => ev E o = some (vi l)) (hh : match hi with | none => False | some o => ev E o = some (vi h)) (hm : match mx with | none => False | some o => ev E o = some (vi h)) (h0 : 0 ≤ l) (h1 : l ≤ h) (h2 : h ≤ (xs.length : Int)) :
    Runs P w E ⟨dst, .slice t x lo hi mx, ty, pos, after, guard⟩ (.slice A' (cut xs l h).length (cut xs l h).length) := by
  have hso' : A' = (if h.toNat = l.toNat then A else A.map (fun a => a.add (l.toNat * sz0))) := hso
  subst hso'
  rw [cut_len h0 h1 h2]
  refine R_slice (w := w) hu hs hx (l := l.toNat) (h := h.toNat) (m := h.toNat) ?_ ?_ ?_ (by cases hi with | none => exact hh.elim | some o => simp) (by omega) (by omega) (by omega)
  · cases lo with
    | none => subst hl; rfl
    | some o => exact ⟨_, _, hl, by omega⟩
  · cases hi with
    | none => exact hh.elim
    | some o => exact ⟨_, _, hh, by omega⟩
  · cases mx with
    | none => exact hm.elim
    | some o => exact ⟨_, _, hm, by omega⟩
end

section
variable {P : Program} {w w' : World} {E : Env} {dst : Option Nat} {ty : TypeId} {pos : String} {after : Array Edge} {guard : Option (Nat × Bool)} {x y s : Operand} {t t' : TypeId}
theorem X_lenStr {b : Str} {ats : Array TypeId} (hu : P.underlying t = some .string) (ha : ats[0]? = some t) (hx : ev E x = some (vs b)) :
    Runs P w E ⟨dst, .call { callee := .builtin .len, args := #[x], argTypes := ats }, ty, pos, after, guard⟩ (vi (b.b.length : Int)) := by
  have h := R_lenStr (P := P) (w := w) (dst := dst) (ty := ty) (pos := pos) (after := after) (guard := guard) hu ha hx
  have e : (⟨b.b.toArray⟩ : ByteArray).size = b.b.length := by simp [ByteArray.size]
  rw [e] at h
  exact h
theorem X_indexStr {s : Str} {k : IntKind} {i : Int} {b : UInt8} (hu : P.underlying t = some .string) (hx : ev E x = some (vs s)) (hy : ev E y = some (.int k i)) (hb : At s.b i b) :
    Runs P w E ⟨dst, .index t x y, ty, pos, after, guard⟩ (vb b) := R_indexStr hu hx hy hb.1 (by
      have h := hb.2
      show (⟨s.b.toArray⟩ : ByteArray)[i.toNat]? = some b
      have hlt := (List.getElem?_eq_some_iff.1 h).1
      rw [getElem?_pos (⟨s.b.toArray⟩ : ByteArray) i.toNat (by simpa [ByteArray.size] using hlt)]
      rw [List.getElem?_eq_getElem hlt] at h
      rw [← h]; rfl)
theorem X_strBytes {s : Str} {td e : TypeId} (hs : P.underlying t = some .string) (hd : P.underlying td = some (.slice e)) (he : P.underlying e = some (.int .u8)) (hx : ev E x = some (vs s)) :
    RunsTo P w E ⟨dst, .convert t td x, ty, pos, after, guard⟩ (fun u w' => ∃ A' c', u = .slice A' s.b.length c' ∧ s.b.length ≤ c' ∧ Rd w' A' (s.b.map vb) ∧ (∀ b ∈ blkOf A', w.heap.size ≤ b) ∧ Fr [] w w') := fun a N ha => by
  have hr := run_bytes_of_string (P := P) w t td e ⟨s.b.toArray⟩ hs hd he
  have es : (⟨s.b.toArray⟩ : ByteArray).size = s.b.length := by simp [ByteArray.size]
  rw [es] at hr
  refine ⟨_, _, ⟨some ⟨w.heap.size, 0, none⟩, _, rfl, ?_, ?_, by simp [blkOf], (Fr.drew w).then0 (Fr.alloc _ _)⟩, .inl (by simp only [execOp, ha.eval hx, Sem.run_bind]; rw [hr]; rfl)⟩
  · exact grownCap_ge _ _ _ _
  · intro j v hj
    rw [List.getElem?_map] at hj
    have hlt : j < s.b.length := by
      rcases Nat.lt_or_ge j s.b.length with h | h
      · exact h
      · rw [List.getElem?_eq_none h] at hj; cases hj
    rw [List.getElem?_eq_getElem hlt] at hj
    cases hj
    refine ⟨rfl, ?_⟩
    have hB := bytesRow_at ⟨s.b.toArray⟩ (grownCap w s.b.length 0 e) j (by simpa using hlt)
    simp only [adr, Option.getD_some, add_flat, Nat.zero_add]
    have hn : (w.drew.alloc (.cells (bytesRow ⟨s.b.toArray⟩ (grownCap w s.b.length 0 e)) e ((bytesRow ⟨s.b.toArray⟩ (grownCap w s.b.length 0 e)).size, (bytesRow ⟨s.b.toArray⟩ (grownCap w s.b.length 0 e)).size + 1))).heap[w.heap.size]? = some (.cells (bytesRow ⟨s.b.toArray⟩ (grownCap w s.b.length 0 e)) e ((bytesRow ⟨s.b.toArray⟩ (grownCap w s.b.length 0 e)).size, (bytesRow ⟨s.b.toArray⟩ (grownCap w s.b.length 0 e)).size + 1)) := heap_alloc_new w.drew _
    rw [World.cell?, hn]
    simpa using hB
theorem Runs.to {o : Oper} {v : Value} (h : Runs P w E o v) : RunsTo P w E o (fun u w' => u = v ∧ w' = w) := fun a N ha => ⟨v, w, ⟨rfl, rfl⟩, .inl (h a N ha)⟩
theorem X_convB {B e c : Nat} {Eg H : Gh} {A : Option Addr} {xs : List UInt8} (hu : P.underlying t = some (.slice e)) (he : P.underlying e = some (.int .u8)) (hx : ev E x = some (.slice A xs.length c)) (hc : xs.length = c) (h00 : 0 < c) (hO : OwnS B e Eg H w A c xs) :
    RunsTo P w E ⟨dst, .convert t t x, ty, pos, after, guard⟩ (fun v w' => v = .slice A xs.length c ∧ Rd w' A (xs.map Sc.enc) ∧ Fr (bk A c) w w') := by
  obtain ⟨css, h1, h2, h3⟩ := hO
  rcases h2.form with ⟨hc0, hn0, hx0⟩ | ⟨g, cur, rfl, hg, hB, hn, hm, hl, ht, h0⟩
  · omega
  · have ef : cur = xs.map Sc.enc := by
      rw [all2_sc h1, flat_sc] at ht
      rw [← ht, hc, ← hl, List.take_length]
    subst ef
    have hbk : bk (some ⟨g, 0, none⟩) c = [g] := by cases c with | zero => omega | succ c => rfl
    rw [hbk]
    exact R_convB hu he hx hB
theorem X_storeOwn {α : Type} [Sc α] {B e c : Nat} {Eg H : Gh} {A : Option Addr} {xs : List α} {i : Int} {x0 v : α} (hs : sz P t = some 1) (hx : ev E x = some (.pointer (some ((adr A).add (i.toNat * 1))))) (hy : ev E y = some (Sc.enc v)) (hQ : OwnS B e Eg H w A c xs) (hi : At xs i x0) :
    RunsTo P w E ⟨none, .store t x y, ty, pos, after, guard⟩ (fun _ w' => OwnS B e Eg H w' A c (put xs i v) ∧ Fr (bk A c) w w') := by
  obtain ⟨css, h1, h2, h3⟩ := hQ
  have hn : Rp.n α = 1 := Sc.n1
  rw [hn] at h2
  have e1 := all2_sc h1
  subst e1
  rw [flat_sc] at h2
  have hlt := hi.lt
  have h0 := hi.1
  have hx' : ev E x = some (.pointer (some ((adr A).add (((i.toNat : Nat) : Int).toNat * 1)))) := hx
  rcases h2 with ⟨_, hz, _⟩ | ⟨hpos, h2⟩
  · omega
  intro a N ha
  obtain ⟨u, w', ⟨h4, h5⟩, hr⟩ := R_storeOwn (ty := ty) (pos := pos) (after := after) (guard := guard) hs hx' hy h2 (by omega) (enc_one v) a N ha
  refine ⟨u, w', ⟨⟨_, all2_sc' (put xs i v), OwnX.of ?_, h3⟩, h5.mono fun i hi _ => bk_to hi hpos⟩, hr⟩
  rw [flat_sc, hn, put, List.map_set, List.length_set]
  exact h4
theorem X_bytesStr {td e n c : Nat} {A : Option Addr} {bs : List UInt8} (hs : P.underlying t = some (.slice e)) (he : P.underlying e = some (.int .u8)) (hd : P.underlying td = some .string) (hx : ev E x = some (.slice A n c)) (hn : n = bs.length) (hR : Rd w A (bs.map Sc.enc)) :
    Runs P w E ⟨dst, .convert t td x, ty, pos, after, guard⟩ (vs ⟨bs⟩) := R_bytesStr hs he hd hx hn hR
theorem andI_wrap (m n : Int) : IntKind.i64.wrap ((BitVec.ofInt IntKind.i64.bits m &&& BitVec.ofInt IntKind.i64.bits n).toNat : Int) = andI m n := by
  have e : IntKind.i64.bits = 64 := rfl
  rw [e, andI, BitVec.toInt_eq_toNat_bmod, IntKind.wrap_i64]
  have := (BitVec.ofInt 64 m &&& BitVec.ofInt 64 n).isLt
  rw [Int.bmod]
  omega
theorem rem64 (a b : BitVec 64) : ((a.toNat : Int)).tmod (b.toNat : Int) = ((a % b).toNat : Int) := by rw [BitVec.toNat_umod]; rfl
theorem quo64 (a b : BitVec 64) : IntKind.u64.wrap (((a.toNat : Int)).tdiv (b.toNat : Int)) = ((a / b).toNat : Int) := by
  rw [BitVec.toNat_udiv, ← Int.ofNat_tdiv]
  exact lt64 _ (Nat.lt_of_le_of_lt (Nat.div_le_self _ _) a.isLt)
theorem rem32 (a b : BitVec 32) : ((a.toNat : Int)).tmod (b.toNat : Int) = ((a % b).toNat : Int) := by rw [BitVec.toNat_umod]; rfl
theorem quo32 (a b : BitVec 32) : IntKind.u32.wrap (((a.toNat : Int)).tdiv (b.toNat : Int)) = ((a / b).toNat : Int) := by
  rw [BitVec.toNat_udiv, ← Int.ofNat_tdiv]
  exact lt32 _ (Nat.lt_of_le_of_lt (Nat.div_le_self _ _) a.isLt)
theorem rem8 (a b : UInt8) : ((a.toNat : Int)).tmod (b.toNat : Int) = ((a % b).toNat : Int) := by rw [UInt8.toNat_mod]; rfl
theorem quo8 (a b : UInt8) : IntKind.u8.wrap (((a.toNat : Int)).tdiv (b.toNat : Int)) = ((a / b).toNat : Int) := by
  rw [UInt8.toNat_div, ← Int.ofNat_tdiv]
  exact lt8 _ (Nat.lt_of_le_of_lt (Nat.div_le_self _ _) a.toBitVec.isLt)
theorem X_slNil {tu e : TypeId} {A : Option Addr} {n c n' c' : Nat} {b : Bool} (hb : b = A.isNone) (hu : P.underlying t = some (.slice e)) (hx : ev E x = some (.slice A n c)) (hy : ev E y = some (.slice none n' c')) : Runs P w E ⟨dst, .binOp .eql t x y tu, ty, pos, after, guard⟩ (.bool b) := hb ▸ R_slNil hu hx hy
theorem X_slNotNil {tu e : TypeId} {A : Option Addr} {n c n' c' : Nat} {b : Bool} (hb : b = A.isNone) (hu : P.underlying t = some (.slice e)) (hx : ev E x = some (.slice A n c)) (hy : ev E y = some (.slice none n' c')) : Runs P w E ⟨dst, .binOp .neq t x y tu, ty, pos, after, guard⟩ (.bool (!b)) := hb ▸ R_slNotNil hu hx hy
theorem sep_app {A A' An : Option Addr} {c c' cn n : Nat} (h : ∀ i ∈ bk A' c', i ∈ bk A c ∨ n ≤ i) (hs : ∀ i ∈ bk A c, i ∉ bk An cn) (hlt : ∀ i ∈ bk An cn, i < n) : ∀ i ∈ bk A' c', i ∉ bk An cn :=
  fun i hi hn => (h i hi).elim (fun k => hs i k hn) fun k => by have := hlt i hn; omega
theorem sep_new {A' An : Option Addr} {c' cn n : Nat} (h : ∀ i ∈ bk A' c', n ≤ i) (hlt : ∀ i ∈ bk An cn, i < n) : ∀ i ∈ bk A' c', i ∉ bk An cn :=
  fun i hi hn => by have := hlt i hn; have := h i hi; omega
theorem sep_sym {A B : Option Addr} {c d : Nat} (h : ∀ i ∈ bk A c, i ∉ bk B d) : ∀ i ∈ bk B d, i ∉ bk A c := fun i hi hn => h i hn hi
theorem sep_zero {A B : Option Addr} {d : Nat} : ∀ i ∈ bk A 0, i ∉ bk B d := by simp [bk]
theorem sep_zero' {A B : Option Addr} {c : Nat} : ∀ i ∈ bk A c, i ∉ bk B 0 := by simp [bk]
end
end Go.Lx
