/- SX, sixth part: slices: cut, made, appended to, copied; strings; calls; tests against nil. -/
import Derived.Test.YtohneemghiehdaaDoorSx5
import Derived.Laws.CopyOwn
import Derived.Deep.Upon
import Derived.WideLaws
set_option linter.unusedVariables false
set_option linter.unusedSimpArgs false
namespace Go.Sx
open Go

def evL (E : Env) : List Operand → Option (List Value)
  | [] => some []
  | x :: xs => match ev E x, evL E xs with
    | some v, some vs => some (v :: vs)
    | _, _ => none

theorem evL_map {N : Nat} {E : Env} {a : Act} (ha : Has N E a) : ∀ (xs : List Operand) (vs : List Value), evL E xs = some vs → xs.map a.eval = vs
  | [], vs, h => by simp [evL] at h; subst h; rfl
  | x :: xs, vs, h => by
    simp only [evL] at h
    split at h
    · rename_i v vs' hv hvs
      cases h
      rw [List.map_cons, ha.eval hv, evL_map ha xs vs' hvs]
    · cases h

/-- a Go function with a body -/
def bodied (P : Program) (f : FuncId) : Bool := match P.funcs[f]? with
  | some fn => fn.body.isSome && !(fn.name == "runtime.NumGoroutine")
  | none => false

section
variable {P : Program} {w : World} {E : Env} {dst : Option Nat} {ty : TypeId} {pos : String} {after : Array Edge} {guard : Option (Nat × Bool)} {x y s : Operand} {t t' : TypeId}

theorem run_callFunc {f : FuncId} (hf : bodied P f = true) (args : Array Value) : (callFunc f args).run P w = .ok (.enter f args) w := by
  unfold bodied at hf
  cases hq : P.funcs[f]? with
  | none => rw [hq] at hf; cases hf
  | some fn =>
    rw [hq] at hf
    simp only [Bool.and_eq_true, Bool.not_eq_true'] at hf
    have hb : fn.body ≠ none := by intro h; rw [h] at hf; cases hf.1
    have hn : fn.name ≠ "runtime.NumGoroutine" := by simpa using hf.2
    simp [callFunc, hq, hn, hb]

theorem C_func {f : FuncId} {xs : List Operand} {ats : Array TypeId} {vs : List Value} (hf : bodied P f = true) (hx : evL E xs = some vs) :
    Enters P w E ⟨dst, .call { callee := .value (.func f), args := xs.toArray, argTypes := ats }, ty, pos, after, guard⟩ f vs.toArray := fun a N ha => by
  have := evL_map ha xs vs hx
  simp [execOp, resolve, Act.eval, Deferred.ofValue, invoke, run_callFunc hf, this]
theorem C_val {c : Operand} {f : FuncId} {xs : List Operand} {ats : Array TypeId} {vs : List Value} {fs cs : Array Value} (hf : bodied P f = true) (hc : ev E c = some (.func (.func f) fs cs)) (hx : evL E xs = some vs) :
    Enters P w E ⟨dst, .call { callee := .value c, args := xs.toArray, argTypes := ats }, ty, pos, after, guard⟩ f (fs ++ vs.toArray ++ cs) := fun a N ha => by
  have := evL_map ha xs vs hx
  simp [execOp, resolve, ha.eval hc, Deferred.ofValue, invoke, run_callFunc hf, this]

/-! ### len, min, max -/
theorem R_len {e : TypeId} {A : Option Addr} {n c : Nat} {ats : Array TypeId} (hu : P.underlying t = some (.slice e)) (ha : ats[0]? = some t) (hx : ev E x = some (.slice A n c)) :
    Runs P w E ⟨dst, .call { callee := .builtin .len, args := #[x], argTypes := ats }, ty, pos, after, guard⟩ (vi n) := fun a N hA => by
  simp [execOp, resolve, invoke, builtin, Builtin.len_, hA.eval hx, ha, run_underlying hu, goInt]
theorem R_lenStr {b : ByteArray} {ats : Array TypeId} (hu : P.underlying t = some .string) (ha : ats[0]? = some t) (hx : ev E x = some (.string b)) :
    Runs P w E ⟨dst, .call { callee := .builtin .len, args := #[x], argTypes := ats }, ty, pos, after, guard⟩ (vi b.size) := fun a N hA => by
  simp [execOp, resolve, invoke, builtin, Builtin.len_, hA.eval hx, ha, run_underlying hu, goInt]
theorem R_cap {e : TypeId} {A : Option Addr} {n c : Nat} {ats : Array TypeId} (hu : P.underlying t = some (.slice e)) (ha : ats[0]? = some t) (hx : ev E x = some (.slice A n c)) :
    Runs P w E ⟨dst, .call { callee := .builtin .cap, args := #[x], argTypes := ats }, ty, pos, after, guard⟩ (vi c) := fun a N hA => by
  simp [execOp, resolve, invoke, builtin, Builtin.cap_, hA.eval hx, ha, run_underlying hu, goInt]
theorem R_min {k : IntKind} {m n c : Int} {ats : Array TypeId} (hx : ev E x = some (.int k m)) (hy : ev E y = some (.int k n)) (h : min m n = c) :
    Runs P w E ⟨dst, .call { callee := .builtin .min, args := #[x, y], argTypes := ats }, ty, pos, after, guard⟩ (.int k c) := fun a N hA => by
  subst h
  have : (if n < m then n else m) = min m n := by split <;> omega
  simp [execOp, resolve, invoke, builtin, Builtin.min_, Builtin.min2, hA.eval hx, hA.eval hy, this]
theorem R_max {k : IntKind} {m n c : Int} {ats : Array TypeId} (hx : ev E x = some (.int k m)) (hy : ev E y = some (.int k n)) (h : max m n = c) :
    Runs P w E ⟨dst, .call { callee := .builtin .max, args := #[x, y], argTypes := ats }, ty, pos, after, guard⟩ (.int k c) := fun a N hA => by
  subst h
  have : (if m < n then n else m) = max m n := by split <;> omega
  simp [execOp, resolve, invoke, builtin, Builtin.max_, Builtin.max2, hA.eval hx, hA.eval hy, this]

/-! ### cuts -/
/-- a bound of a cut -/
def Bnd (E : Env) (o : Option Operand) (n d : Nat) : Prop := match o with
  | none => n = d
  | some x => ∃ k i, ev E x = some (.int k i) ∧ i = (n : Int)
theorem Bnd.eval {N : Nat} {a : Act} (hA : Has N E a) {x : Operand} {n d : Nat} (h : Bnd E (some x) n d) : ∃ k, a.eval x = .int k (n : Int) := by
  obtain ⟨k, i, h1, rfl⟩ := h
  exact ⟨k, hA.eval h1⟩

theorem R_slice {e sz0 len cap l h m : Nat} {A : Option Addr} {lo hi mx : Option Operand} (hu : P.underlying t = some (.slice e)) (hs : sz P e = some sz0) (hx : ev E x = some (.slice A len cap))
    (hl : Bnd E lo l 0) (hh : Bnd E hi h len) (hm : Bnd E mx m cap) (hmh : mx.isSome = true → hi.isSome = true) (h1 : l ≤ h) (h2 : h ≤ m) (h3 : m ≤ cap) :
    Runs P w E ⟨dst, .slice t x lo hi mx, ty, pos, after, guard⟩ (.slice (if m = l then A else A.map (·.add (l * sz0))) (h - l) (m - l)) := fun a N hA => by
  have bound : ∀ (k : IntKind) (i y : Nat) (c : BoundsCode), i ≤ y → (Instr.sliceBound (.int k (i : Int)) y c).run P w = .ok i w := fun k i y c hiy => by
    simp [Instr.sliceBound, asIntOf, hiy]
  have all : (Instr.sliceBounds true len cap (lo.map a.eval) (hi.map a.eval) (mx.map a.eval)).run P w = .ok (l, h, m) w := by
    cases lo with
    | none =>
      obtain rfl : l = 0 := hl
      cases hi with
      | none =>
        obtain rfl : h = len := hh
        cases mx with
        | none =>
          obtain rfl : m = cap := hm
          simp [Instr.sliceBounds]
        | some z => exact absurd (hmh rfl) (by simp)
      | some yy =>
        obtain ⟨k2, e2⟩ := hh.eval hA
        cases mx with
        | none =>
          obtain rfl : m = cap := hm
          simp [Instr.sliceBounds, e2, bound _ _ _ _ h2]
        | some z =>
          obtain ⟨k3, e3⟩ := hm.eval hA
          simp [Instr.sliceBounds, e2, e3, bound _ _ _ _ h2, bound _ _ _ _ h3]
    | some xx =>
      obtain ⟨k1, e1⟩ := hl.eval hA
      cases hi with
      | none =>
        obtain rfl : h = len := hh
        cases mx with
        | none =>
          obtain rfl : m = cap := hm
          simp [Instr.sliceBounds, e1, bound _ _ _ _ h1]
        | some z => exact absurd (hmh rfl) (by simp)
      | some yy =>
        obtain ⟨k2, e2⟩ := hh.eval hA
        cases mx with
        | none =>
          obtain rfl : m = cap := hm
          simp [Instr.sliceBounds, e1, e2, bound _ _ _ _ h2, bound _ _ _ _ h1]
        | some z =>
          obtain ⟨k3, e3⟩ := hm.eval hA
          simp [Instr.sliceBounds, e1, e2, e3, bound _ _ _ _ h2, bound _ _ _ _ h3, bound _ _ _ _ h1]
  simp [execOp, hA.eval hx, Instr.sliceAt, run_underlying hu, Instr.slice, all, run_sizeOf hs]

/-- a cut of an array behind an address -/
theorem R_sliceArr {e sz0 len l h : Nat} {b o : Nat} {lo hi : Option Operand} (hu : P.underlying t = some (.array len e)) (hs : sz P e = some sz0) (hx : ev E x = some (.pointer (some ⟨b, o, none⟩)))
    (hl : Bnd E lo l 0) (hh : Bnd E hi h len) (h1 : l ≤ h) (h2 : h ≤ len) :
    Runs P w E ⟨dst, .slice t x lo hi none, ty, pos, after, guard⟩ (.slice (some (if len = l then ⟨b, o, none⟩ else ⟨b, o + l * sz0, none⟩)) (h - l) (len - l)) := fun a N hA => by
  have bound : ∀ (k : IntKind) (i y : Nat) (c : BoundsCode), i ≤ y → (Instr.sliceBound (.int k (i : Int)) y c).run P w = .ok i w := fun k i y c hiy => by
    simp [Instr.sliceBound, asIntOf, hiy]
  have all : (Instr.sliceBounds false len len (lo.map a.eval) (hi.map a.eval) none).run P w = .ok (l, h, len) w := by
    cases lo with
    | none =>
      obtain rfl : l = 0 := hl
      cases hi with
      | none => obtain rfl : h = len := hh; simp [Instr.sliceBounds]
      | some yy => obtain ⟨k2, e2⟩ := hh.eval hA; simp [Instr.sliceBounds, e2, bound _ _ _ _ h2]
    | some xx =>
      obtain ⟨k1, e1⟩ := hl.eval hA
      cases hi with
      | none => obtain rfl : h = len := hh; simp [Instr.sliceBounds, e1, bound _ _ _ _ h1]
      | some yy => obtain ⟨k2, e2⟩ := hh.eval hA; simp [Instr.sliceBounds, e1, e2, bound _ _ _ _ h2, bound _ _ _ _ h1]
  simp [execOp, hA.eval hx, Instr.sliceAt, run_underlying hu, Instr.sureAddr, all, run_sizeOf hs, add_flat]

/-! ### what is appended -/
theorem Src.ofRd {size m c : Nat} {tx e' : TypeId} {A : Option Addr} {ys : List Value} (hk : P.underlying tx = some (.slice e')) (hsz : 0 < size) (hR : Rd w A ys) (hl : ys.length = m * size) (h1 : ys.all (·.oneCell') = true) :
    Src P size tx (.slice A m c) m ys w := by
  have h1' : ∀ u ∈ ys, u.oneCell' = true := fun u hu => (List.all_eq_true.1 h1) u hu
  cases A with
  | some a => exact Src.ofSlice w hk a m c ys hl hR.cells h1'
  | none =>
    have hy : ys = [] := by
      cases ys with
      | nil => rfl
      | cons v ys => have := (hR 0 v rfl).1; cases this
    subst hy
    have hm : m = 0 := by
      rcases Nat.eq_zero_or_pos m with h | h
      · exact h
      · have := Nat.mul_pos h hsz; rw [← hl] at this; cases this
    subst hm
    exact Src.ofNil w hk c

/-- A slice of the call's own, from block B on. -/
def Own (w : World) (B : Nat) (e : TypeId) (size : Nat) (A : Option Addr) (n c : Nat) (xs : List Value) : Prop := w.ownsRow B e size (.slice A n c) n xs
def blkOf : Option Addr → List Nat
  | none => []
  | some a => [a.block]

variable {B n m c c' size e : Nat} {A : Option Addr} {xs ys : List Value}

theorem Own.nil (w : World) (B e size : Nat) : Own w B e size none 0 0 [] := World.ownsRow_nil w B e size
theorem Own.len (h : Own w B e size A n c xs) : xs.length = n * size := h.1
theorem Own.form (h : Own w B e size A n c xs) : (A = none ∧ n = 0 ∧ c = 0 ∧ xs = []) ∨ ∃ g cur, A = some ⟨g, 0, none⟩ ∧ B ≤ g ∧ Blk w g e cur ∧ n ≤ c ∧ c ≤ maxLen ∧ cur.length = c * size ∧ cur.take (n * size) = xs := by
  rcases h.2 with ⟨h2, rfl⟩ | ⟨g, cap, cur, hv, hb, hg, h1, h3, h4, h5⟩
  · left
    injection h2 with a b c
    subst a; subst c
    exact ⟨rfl, rfl, rfl, List.eq_nil_of_length_eq_zero (by simpa using h.1)⟩
  · right
    injection hv with a b c
    subst a; subst c
    exact ⟨g, cur.toList, rfl, hb, by simpa [Blk] using hg, h1, h3, by simpa using h4, h5⟩
theorem Own.mk {g : Nat} {cur : List Value} (hb : B ≤ g) (hB : Blk w g e cur) (h1 : n ≤ c) (h3 : c ≤ maxLen) (h4 : cur.length = c * size) (h5 : cur.take (n * size) = xs) : Own w B e size (some ⟨g, 0, none⟩) n c xs := by
  refine ⟨?_, .inr ⟨g, c, cur.toArray, rfl, hb, hB, h1, h3, by simpa using h4, by simpa using h5⟩⟩
  rw [← h5, List.length_take, h4]
  exact Nat.min_eq_left (Nat.mul_le_mul_right _ h1)
theorem Own.rd (h : Own w B e size A n c xs) : Rd w A xs := by
  rcases h.form with ⟨rfl, _, _, rfl⟩ | ⟨g, cur, rfl, _, hB, _, _, _, rfl⟩
  · exact Rd.nil _ _
  · exact (Rd.ofBlk0 hB).take _
theorem Own.off (h : Own w B e size A n c xs) : ∀ i ∈ blkOf A, B ≤ i := by
  rcases h.form with ⟨rfl, _, _, rfl⟩ | ⟨g, cur, rfl, hb, _, _, _, _, _⟩
  · simp [blkOf]
  · simpa [blkOf] using hb
theorem Own.fr {M : List Nat} {w' : World} (h : Own w B e size A n c xs) (hf : Fr M w w') (hn : ∀ i ∈ blkOf A, i ∉ M) : Own w' B e size A n c xs := by
  rcases h.form with ⟨rfl, rfl, rfl, rfl⟩ | ⟨g, cur, rfl, hb, hB, h1, h3, h4, h5⟩
  · exact Own.nil ..
  · exact Own.mk hb (hB.fr hf (hn g (by simp [blkOf]))) h1 h3 h4 h5
theorem Own.fr0 {w' : World} (h : Own w B e size A n c xs) (hf : Fr [] w w') : Own w' B e size A n c xs := h.fr hf (by simp)

/-- the element type's row -/
structure Elem (P : Program) (t e size bytes : Nat) : Prop where
  under : P.underlying t = some (.slice e)
  row : ∃ (i : TypeInfo) (z : Value), P.info? e = some i ∧ i.zero = some z ∧ i.size = size ∧ i.bytes = bytes ∧ z.cells.size = size
  pos : 0 < size

def elemB (P : Program) (t e size bytes : Nat) : Bool := (match P.underlying t with | some (.slice e') => e' == e | _ => false) && (match P.info? e with
  | some i => (match i.zero with | some z => z.cells.size == size | none => false) && i.size == size && i.bytes == bytes
  | none => false) && Nat.blt 0 size
theorem Elem.of {bytes : Nat} (h : elemB P t e size bytes = true) : Elem P t e size bytes := by
  unfold elemB at h
  simp only [Bool.and_eq_true] at h
  obtain ⟨⟨h1, h2⟩, h3⟩ := h
  refine ⟨?_, ?_, by simpa [Nat.blt_eq] using h3⟩
  · split at h1
    · rename_i e' hu; rw [hu]; simp at h1; rw [h1]
    · cases h1
  · split at h2
    · rename_i i hi
      simp only [Bool.and_eq_true] at h2
      obtain ⟨⟨h4, h5⟩, h6⟩ := h2
      split at h4
      · rename_i z hz
        exact ⟨i, z, hi, hz, by simpa using h5, by simpa using h6, by simpa using h4⟩
      · cases h4
    · cases h2

theorem one_of {l : List Value} (h : l.all (·.oneCell') = true) : ∀ u ∈ l, u.oneCell' = true := fun u hu => (List.all_eq_true.1 h) u hu

theorem grown_own {bytes : Nat} (el : Elem P t e size bytes) (w : World) (B : Nat) (hbase : B ≤ w.heap.size) (old : Nat) (xs ys : List Value) (k : Nat) (hk : old < k) (hkm : k ≤ maxLen) (hl : (xs ++ ys).length = k * size) (z : Value) (hzs : z.cells.size = size) :
    Own (w.drew.alloc (.cells ((xs ++ ys).toArray ++ Builtin.zeroCells z.cells (grownCap w k old e - k)) e)) B e size (some ⟨w.heap.size, 0, none⟩) k (grownCap w k old e) (xs ++ ys) := by
  have hge := grownCap_ge w k old e
  have hcm : grownCap w k old e ≤ maxLen := grownCap_le_maxLen w k old e hkm
  have hB : Blk (w.drew.alloc (.cells ((xs ++ ys).toArray ++ Builtin.zeroCells z.cells (grownCap w k old e - k)) e)) w.heap.size e ((xs ++ ys) ++ (Builtin.zeroCells z.cells (grownCap w k old e - k)).toList) := by
    have h0 : (xs ++ ys).toArray ++ Builtin.zeroCells z.cells (grownCap w k old e - k) = ((xs ++ ys) ++ (Builtin.zeroCells z.cells (grownCap w k old e - k)).toList).toArray := by
      apply Array.ext'
      simp
    rw [h0]
    exact Blk.new w.drew e _
  refine Own.mk hbase hB hge hcm ?_ ?_
  · rw [List.length_append, hl, Array.length_toList, size_zeroCells, hzs, ← Nat.add_mul]
    congr 1
    omega
  · rw [← hl]; exact List.take_left

theorem R_append {bytes : Nat} {tx : TypeId} {m : Nat} {v : Value} (el : Elem P t e size bytes) (hs : ev E s = some (.slice A n c)) (hx : ev E x = some v) (hown : Own w B e size A n c xs) (hsrc : Src P size tx v m ys w)
    (hbytes : (n + m) * bytes ≤ 140737488355328) (h63 : n + m ≤ maxLen) (hbase : B ≤ w.heap.size) :
    RunsTo P w E ⟨dst, .call { callee := .builtin .append, args := #[s, x], argTypes := #[t, tx] }, ty, pos, after, guard⟩ (fun u w' => ∃ A' c', u = .slice A' (n + m) c' ∧ Own w' B e size A' (n + m) c' (xs ++ ys) ∧ Fr (blkOf A) w w') := fun a N hA => by
  obtain ⟨i, z, hi, hz, rfl, rfl, hzs⟩ := el.row
  have hlen : (xs ++ ys).length = (n + m) * i.size := by rw [List.length_append, hown.len, hsrc.newsLen, Nat.add_mul]
  have hsm : n + m ≤ 9223372036854775807 := by simp only [maxLen] at h63; omega
  suffices h : ∃ u w', (∃ A' c', u = .slice A' (n + m) c' ∧ Own w' B e i.size A' (n + m) c' (xs ++ ys) ∧ Fr (blkOf A) w w') ∧ (Builtin.append_ #[t, tx] ty #[.slice A n c, v]).run P w = .ok u w' by
    obtain ⟨u, w', h1, h2⟩ := h
    exact ⟨u, w', h1, .inl (by simp [execOp, resolve, invoke, builtin, hA.eval hs, hA.eval hx, h2])⟩
  rcases hown.form with ⟨rfl, rfl, rfl, rfl⟩ | ⟨g, cur, rfl, hb, hB, h1, h3, h4, h5⟩
  · by_cases hm : m = 0
    · subst hm
      have hy : ys = [] := List.eq_nil_of_length_eq_zero (by simpa using hsrc.newsLen)
      subst hy
      exact ⟨_, w, ⟨none, 0, rfl, Own.nil .., Fr.refl _ _⟩, run_append_nothing w t tx ty e i el.under hi none 0 0 (Nat.le_refl _) v hsrc⟩
    · have hr := run_append_grow_src (P := P) w t tx ty e i z el.under hi hz none 0 0 [] (run_firstCells_none w.drew i.size 0 0 0) v m ys hsrc (by omega) (by omega) (growslice_fits (by omega) hbytes)
      exact ⟨_, _, ⟨_, _, rfl, grown_own (t := t) el w B hbase 0 [] ys (0 + m) (by omega) h63 hlen z hzs, ((Fr.drew w).then0 (Fr.alloc _ _)).mono (by simp)⟩, hr⟩
  · by_cases hroom : n + m ≤ c
    · have hfit : n * i.size + ys.length ≤ cur.length := by rw [hsrc.newsLen, h4, ← Nat.add_mul]; exact Nat.mul_le_mul_right _ hroom
      have hst := run_storeCells_at (P := P) g (n * i.size) e ys 0 cur.toArray w hB (by simpa using hfit) hsrc.one
      simp only [Nat.add_zero] at hst
      have hr : (Builtin.append_ #[t, tx] ty #[.slice (some ⟨g, 0, none⟩) n c, v]).run P w = .ok (.slice (some ⟨g, 0, none⟩) (n + m) c) (w.setRow g (over cur (n * i.size) ys).toArray) := by
        rcases hsrc.kind with ⟨e', hk⟩ | hk <;>
          simp [Builtin.append_, run_underlying el.under, run_underlying hk, sizeOf, typeInfo, hi, hsrc.len, hroom, hsrc.cells, add_flat, hst, over]
      refine ⟨_, _, ⟨_, _, rfl, Own.mk hb (blk_setRow hB) hroom h3 ?_ ?_, by simpa [blkOf] using fr_setRow w g _⟩, hr⟩
      · simp only [over, List.length_append, List.length_take, List.length_drop]
        omega
      · rw [over, h5, ← hlen]
        exact List.take_left
    · have hold : (Builtin.firstCells i.size n (.slice (some ⟨g, 0, none⟩) n c)).run P w.drew = .ok xs.toArray w.drew :=
        run_firstCells_some w.drew i.size n ⟨g, 0, none⟩ n c xs hown.len (by have := hown.rd.cells; simpa using this)
      have hr := run_append_grow_src (P := P) w t tx ty e i z el.under hi hz (some ⟨g, 0, none⟩) n c xs hold v m ys hsrc (by omega) (by omega) (growslice_fits (by omega) hbytes)
      exact ⟨_, _, ⟨_, _, rfl, grown_own (t := t) el w B hbase c xs ys (n + m) (by omega) h63 hlen z hzs, ((Fr.drew w).then0 (Fr.alloc _ _)).mono (by simp)⟩, hr⟩

/-- append to a slice without spare room, wherever it lies -/
theorem R_appendTight {bytes : Nat} {tx : TypeId} {m : Nat} {v : Value} (el : Elem P t e size bytes) (hs : ev E s = some (.slice A n n)) (hx : ev E x = some v) (hR : Rd w A xs) (hl : xs.length = n * size) (hsrc : Src P size tx v m ys w)
    (hbytes : (n + m) * bytes ≤ 140737488355328) (h63 : n + m ≤ maxLen) (hbase : B ≤ w.heap.size) :
    RunsTo P w E ⟨dst, .call { callee := .builtin .append, args := #[s, x], argTypes := #[t, tx] }, ty, pos, after, guard⟩ (fun u w' => ∃ A' c', u = .slice A' (n + m) c' ∧ Rd w' A' (xs ++ ys) ∧ Fr [] w w' ∧ ((m = 0 ∧ A' = A ∧ c' = n ∧ w' = w) ∨ (0 < m ∧ Own w' B e size A' (n + m) c' (xs ++ ys)))) := fun a N hA => by
  obtain ⟨i, z, hi, hz, rfl, rfl, hzs⟩ := el.row
  have hlen : (xs ++ ys).length = (n + m) * i.size := by rw [List.length_append, hl, hsrc.newsLen, Nat.add_mul]
  have hsm : n + m ≤ 9223372036854775807 := by simp only [maxLen] at h63; omega
  suffices h : ∃ u w', (∃ A' c', u = .slice A' (n + m) c' ∧ Rd w' A' (xs ++ ys) ∧ Fr [] w w' ∧ ((m = 0 ∧ A' = A ∧ c' = n ∧ w' = w) ∨ (0 < m ∧ Own w' B e i.size A' (n + m) c' (xs ++ ys)))) ∧ (Builtin.append_ #[t, tx] ty #[.slice A n n, v]).run P w = .ok u w' by
    obtain ⟨u, w', h1, h2⟩ := h
    exact ⟨u, w', h1, .inl (by simp [execOp, resolve, invoke, builtin, hA.eval hs, hA.eval hx, h2])⟩
  by_cases hm : m = 0
  · subst hm
    have hy : ys = [] := List.eq_nil_of_length_eq_zero (by simpa using hsrc.newsLen)
    subst hy
    exact ⟨_, w, ⟨A, n, rfl, by simpa using hR, Fr.refl _ _, .inl ⟨rfl, rfl, rfl, rfl⟩⟩, run_append_nothing w t tx ty e i el.under hi A n n (Nat.le_refl _) v hsrc⟩
  · have hold : (Builtin.firstCells i.size n (.slice A n n)).run P w.drew = .ok xs.toArray w.drew := by
      cases A with
      | none =>
        have hx0 : xs = [] := by
          cases xs with
          | nil => rfl
          | cons u us => have := (hR 0 u rfl).1; cases this
        subst hx0
        exact run_firstCells_none w.drew i.size n n n
      | some a0 => exact run_firstCells_some w.drew i.size n a0 n n xs hl (by have := hR.cells; simpa using this)
    have hr := run_append_grow_src (P := P) w t tx ty e i z el.under hi hz A n n xs hold v m ys hsrc (by omega) (by omega) (growslice_fits (by omega) hbytes)
    have ho := grown_own (t := t) el w B hbase n xs ys (n + m) (by omega) h63 hlen z hzs
    exact ⟨_, _, ⟨_, _, rfl, ho.rd, (Fr.drew w).then0 (Fr.alloc _ _), .inr ⟨by omega, ho⟩⟩, hr⟩
end
end Go.Sx
