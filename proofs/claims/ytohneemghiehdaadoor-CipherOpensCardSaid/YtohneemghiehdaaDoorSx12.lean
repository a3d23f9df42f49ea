/- SX, twelfth part: lists of bytes. -/
import Derived.Test.YtohneemghiehdaaDoorSx11
import Derived.Test.YtohneemghiehdaaDoorBm
import Derived.Laws.IdiomStrings
import Derived.ChangeKeysEq
set_option linter.unusedVariables false
set_option linter.unusedSimpArgs false
namespace Go.Sx
open Go
section
variable {P : Program} {w : World} {E : Env} {dst : Option Nat} {ty : TypeId} {pos : String} {after : Array Edge} {guard : Option (Nat × Bool)} {x y s : Operand} {t t' : TypeId}
theorem Rd.takeB {A : Option Addr} {bs : List UInt8} (h : Rd w A (bs.map vb)) (n : Nat) : Rd w A ((bs.take n).map vb) := by
  rw [List.map_take]; exact h.take n
/-- bytes of the call's own -/
def OwnB (w : World) (B e : Nat) (A : Option Addr) (c : Nat) (xs : List UInt8) : Prop := Own w B e 1 A xs.length c (xs.map vb)
theorem OwnB.rd {B e c : Nat} {A : Option Addr} {xs : List UInt8} (h : OwnB w B e A c xs) : Rd w A (xs.map vb) := Own.rd h
theorem R_appendB {B n c e bytes : Nat} {A A2 : Option Addr} {m c2 : Nat} {tx : TypeId} {xs ys : List UInt8} (el : Elem P t e 1 bytes) (hk : P.underlying tx = some (.slice e)) (hs : ev E s = some (.slice A n c)) (hx : ev E x = some (.slice A2 m c2)) (hn : n = xs.length) (hm : m = ys.length) (hown : OwnB w B e A c xs) (hR : Rd w A2 (ys.map vb))
    (hbytes : (xs.length + ys.length) * bytes ≤ 140737488355328) (hbase : B ≤ w.heap.size) (hb1 : 1 ≤ bytes) :
    RunsTo P w E ⟨dst, .call { callee := .builtin .append, args := #[s, x], argTypes := #[t, tx] }, ty, pos, after, guard⟩ (fun u w' => ∃ A' c', u = .slice A' (xs ++ ys).length c' ∧ OwnB w' B e A' c' (xs ++ ys) ∧ Fr (blkOf A) w w') := by
  subst hn hm
  have h63 : xs.length + ys.length ≤ maxLen := by
    have := Nat.mul_le_mul_left (xs.length + ys.length) hb1
    simp only [maxLen]; omega
  have h := R_append (dst := dst) (ty := ty) (pos := pos) (after := after) (guard := guard) (w := w) el hs hx hown (Src.ofRd hk (by decide) hR (by simp) allb) hbytes h63 hbase
  intro a N hA
  obtain ⟨v, w', ⟨A', c', h1, h2, h3⟩, h4⟩ := h a N hA
  refine ⟨v, w', ⟨A', c', by rw [h1, List.length_append], ?_, h3⟩, h4⟩
  unfold OwnB
  rw [List.length_append, List.map_append]
  exact h2
theorem OwnB.nil (w : World) (B e : Nat) : OwnB w B e none 0 [] := Own.nil ..
theorem OwnB.empty {B b e : Nat} (hb : B ≤ b) (hB : Blk w b e []) : OwnB w B e (some ⟨b, 0, none⟩) 0 [] := Own.empty hb hB
theorem OwnB.fr {B e c : Nat} {A : Option Addr} {xs : List UInt8} {M : List Nat} {w' : World} (h : OwnB w B e A c xs) (hf : Fr M w w') (hn : ∀ i ∈ blkOf A, i ∉ M) : OwnB w' B e A c xs := Own.fr h hf hn
theorem OwnB.fr0 {B e c : Nat} {A : Option Addr} {xs : List UInt8} {w' : World} (h : OwnB w B e A c xs) (hf : Fr [] w w') : OwnB w' B e A c xs := Own.fr0 h hf
end

section
variable {P : Program} {w : World} {E : Env} {dst : Option Nat} {ty : TypeId} {pos : String} {after : Array Edge} {guard : Option (Nat × Bool)} {x y s : Operand} {t t' : TypeId}
/-- string(b) -/
theorem R_bytesStr {td e n c : Nat} {A : Option Addr} {bs : List UInt8} (hs : P.underlying t = some (.slice e)) (he : P.underlying e = some (.int .u8)) (hd : P.underlying td = some .string) (hx : ev E x = some (.slice A n c)) (hn : n = bs.length) (hR : Rd w A (bs.map vb)) :
    Runs P w E ⟨dst, .convert t td x, ty, pos, after, guard⟩ (.string ⟨bs.toArray⟩) := fun a N ha => by
  subst hn
  have hr : (convert t td (.slice A bs.length c)).run P w = .ok (.string ⟨bs.toArray⟩) w := by
    cases A with
    | none =>
      have : bs = [] := by
        cases bs with
        | nil => rfl
        | cons b l => have := (hR 0 (vb b) rfl).1; cases this
      subst this
      exact run_convert_bytes_nil w t e hs he _ _ td hd
    | some a0 =>
      refine run_convert_bytes_back w t td e a0 c bs hs he hd fun j hj => ?_
      exact (hR j _ (by simp [List.getElem?_map, List.getElem?_eq_getElem hj])).2
  simp only [execOp, ha.eval hx, Sem.run_bind]
  rw [hr]
  rfl

theorem eqItems8 {e : TypeId} (hu : P.underlying e = some (.int .u8)) (he : aggB P e = some false) (d : Nat) (xs ys : List UInt8) : ∀ (k m : Nat), k + m ≤ xs.length → k + m ≤ ys.length →
    (Op.eqItems (d + 1) e 1 (xs.map vb).toArray (ys.map vb).toArray (List.range' k m)).run P w = .ok (decide ((xs.drop k).take m = (ys.drop k).take m)) w := by
  intro k m
  induction m generalizing k with
  | zero => intro _ _; simp [Op.eqItems]
  | succ m ih =>
    intro h1 h2
    have p1 : (part e (xs.map vb).toArray (k * 1)).run P w = .ok (vb xs[k]) w := by
      simp [part, run_isAgg he, List.getElem?_eq_getElem (show k < xs.length by omega)]
    have p2 : (part e (ys.map vb).toArray (k * 1)).run P w = .ok (vb ys[k]) w := by
      simp [part, run_isAgg he, List.getElem?_eq_getElem (show k < ys.length by omega)]
    have p3 : (Op.equalIn (d + 1) e (vb xs[k]) (vb ys[k])).run P w = .ok (decide (xs[k] = ys[k])) w := by
      have hq : ((xs[k].toNat : Int) == (ys[k].toNat : Int)) = decide (xs[k] = ys[k]) := by
        by_cases h : xs[k] = ys[k]
        · simp [h]
        · have : xs[k].toNat ≠ ys[k].toNat := fun h' => h (UInt8.toNat_inj.1 h')
          simp [h]
          omega
      simp [Op.equalIn, run_underlying hu, hq]
    rw [List.range'_succ, Op.eqItems]
    simp only [Sem.run_bind, p1, p2, p3, Result.andThen_ok]
    have e1 : (xs.drop k).take (m + 1) = xs[k] :: (xs.drop (k + 1)).take m := by
      rw [List.drop_eq_getElem_cons (show k < xs.length by omega), List.take_succ_cons]
    have e2 : (ys.drop k).take (m + 1) = ys[k] :: (ys.drop (k + 1)).take m := by
      rw [List.drop_eq_getElem_cons (show k < ys.length by omega), List.take_succ_cons]
    rw [e1, e2]
    by_cases h : xs[k] = ys[k]
    · simp only [h, decide_true, Bool.not_true, Bool.false_eq_true, if_false]
      rw [ih (k + 1) (by omega) (by omega)]
      simp
    · simp [h]
theorem run_eqArr8 {n : Nat} {e : TypeId} {i : TypeInfo} (hu : P.underlying t = some (.array n e)) (hi : P.info? e = some i) (h1 : P.cellsOf e = 1) (he : P.underlying e = some (.int .u8)) (ha : aggB P e = some false) {xs ys : List UInt8} (hx : xs.length = n) (hy : ys.length = n) (d : Nat) :
    (Op.equalIn (d + 2) t (.agg (xs.map vb).toArray) (.agg (ys.map vb).toArray)).run P w = .ok (decide (xs = ys)) w := by
  rw [run_equalIn_array w (d + 1) _ _ hu hi, h1, List.range_eq_range', eqItems8 he ha d xs ys 0 n (by omega) (by omega)]
  simp [← hx]
  rw [hx, ← hy, List.take_length]
structure Arr8 (P : Program) (t n : Nat) : Prop where
  arr : ∃ e, P.underlying t = some (.array n e) ∧ (P.info? e).isSome = true ∧ P.cellsOf e = 1 ∧ P.underlying e = some (.int .u8) ∧ aggB P e = some false
theorem R_eqlArr8 {n : Nat} {tu : TypeId} {xs ys : List UInt8} (h8 : Arr8 P t n) (hx : ev E x = some (.agg (xs.map vb).toArray)) (hy : ev E y = some (.agg (ys.map vb).toArray)) (hg0 : P.eqGuardType P.depth t = false) (lx : xs.length = n) (ly : ys.length = n) :
    Runs P w E ⟨dst, .binOp .eql t x y tu, ty, pos, after, guard⟩ (.bool (decide (xs = ys))) := by
  obtain ⟨e, h1, h2, h3, h4, h5⟩ := h8.arr
  obtain ⟨i, h2⟩ := Option.isSome_iff_exists.1 h2
  have h : (Op.equal t (.agg (xs.map vb).toArray) (.agg (ys.map vb).toArray)).run P w = .ok (decide (xs = ys)) w := run_eqArr8 h1 h2 h3 h4 h5 lx ly 9998
  have hg : (eqGuard .eql t x y (.agg (xs.map vb).toArray) (.agg (ys.map vb).toArray)).run P w = .ok () w := by simp [eqGuard, h1, hg0]
  intro A N ha
  show ((do pure (.value (← (do eqGuard .eql t x y (A.eval x) (A.eval y); binOp .eql t (A.eval x) (A.eval y)))) : Sem Next)).run P w = _
  rw [ha.eval hx, ha.eval hy]
  have hb : binOp .eql t (.agg (xs.map vb).toArray) (.agg (ys.map vb).toArray) = (do pure (.bool (← Op.equal t (.agg (xs.map vb).toArray) (.agg (ys.map vb).toArray)))) := rfl
  rw [hb]
  simp only [Sem.run_bind, hg, Result.andThen_ok, h]
  rfl
theorem R_neqArr8 {n : Nat} {tu : TypeId} {xs ys : List UInt8} (h8 : Arr8 P t n) (hx : ev E x = some (.agg (xs.map vb).toArray)) (hy : ev E y = some (.agg (ys.map vb).toArray)) (hg0 : P.eqGuardType P.depth t = false) (lx : xs.length = n) (ly : ys.length = n) :
    Runs P w E ⟨dst, .binOp .neq t x y tu, ty, pos, after, guard⟩ (.bool (decide (xs ≠ ys))) := by
  obtain ⟨e, h1, h2, h3, h4, h5⟩ := h8.arr
  obtain ⟨i, h2⟩ := Option.isSome_iff_exists.1 h2
  have h : (Op.equal t (.agg (xs.map vb).toArray) (.agg (ys.map vb).toArray)).run P w = .ok (decide (xs = ys)) w := run_eqArr8 h1 h2 h3 h4 h5 lx ly 9998
  have hg : (eqGuard .neq t x y (.agg (xs.map vb).toArray) (.agg (ys.map vb).toArray)).run P w = .ok () w := by simp [eqGuard, h1, hg0]
  intro A N ha
  show ((do pure (.value (← (do eqGuard .neq t x y (A.eval x) (A.eval y); binOp .neq t (A.eval x) (A.eval y)))) : Sem Next)).run P w = _
  rw [ha.eval hx, ha.eval hy]
  have hb : binOp .neq t (.agg (xs.map vb).toArray) (.agg (ys.map vb).toArray) = (do pure (.bool (!(← Op.equal t (.agg (xs.map vb).toArray) (.agg (ys.map vb).toArray))))) := rfl
  rw [hb]
  simp only [Sem.run_bind, hg, Result.andThen_ok, h]
  simp
end

section
variable {P : Program} {w : World} {E : Env} {dst : Option Nat} {ty : TypeId} {pos : String} {after : Array Edge} {guard : Option (Nat × Bool)} {x y s : Operand} {t t' : TypeId}
/-- a slice against nil -/
theorem R_slNil {tu e : TypeId} {A : Option Addr} {n c n' c' : Nat} (hu : P.underlying t = some (.slice e)) (hx : ev E x = some (.slice A n c)) (hy : ev E y = some (.slice none n' c')) : Runs P w E ⟨dst, .binOp .eql t x y tu, ty, pos, after, guard⟩ (.bool A.isNone) := by
  refine R_eqlOf hx hy (by simp [eqGuard]) rfl fun d => ?_
  cases A <;> simp [Op.equalIn, run_underlying hu]
theorem R_slNotNil {tu e : TypeId} {A : Option Addr} {n c n' c' : Nat} (hu : P.underlying t = some (.slice e)) (hx : ev E x = some (.slice A n c)) (hy : ev E y = some (.slice none n' c')) : Runs P w E ⟨dst, .binOp .neq t x y tu, ty, pos, after, guard⟩ (.bool (!A.isNone)) := by
  refine R_neqOf hx hy (by simp [eqGuard]) rfl fun d => ?_
  cases A <;> simp [Op.equalIn, run_underlying hu]
theorem strEq_dec (xs ys : List UInt8) : ((⟨xs.toArray⟩ : ByteArray).toList == (⟨ys.toArray⟩ : ByteArray).toList) = decide (xs = ys) := by
  have h : ∀ l : List UInt8, (⟨l.toArray⟩ : ByteArray).toList = l := fun l => by rw [ByteArray.toList_eq]
  rw [h, h]
  by_cases e : xs = ys <;> simp [e]
/-- strings of bytes -/
theorem R_strEqB {tu : TypeId} {xs ys : List UInt8} (hx : ev E x = some (.string ⟨xs.toArray⟩)) (hy : ev E y = some (.string ⟨ys.toArray⟩)) : Runs P w E ⟨dst, .binOp .eql t x y tu, ty, pos, after, guard⟩ (.bool (decide (xs = ys))) := by
  rw [← strEq_dec]; exact R_strEq hx hy
theorem R_strNeB {tu : TypeId} {xs ys : List UInt8} (hx : ev E x = some (.string ⟨xs.toArray⟩)) (hy : ev E y = some (.string ⟨ys.toArray⟩)) : Runs P w E ⟨dst, .binOp .neq t x y tu, ty, pos, after, guard⟩ (.bool (decide (xs ≠ ys))) := by
  have := R_strNe (P := P) (w := w) (E := E) (dst := dst) (ty := ty) (pos := pos) (after := after) (guard := guard) (t := t) (tu := tu) hx hy
  rw [strEq_dec] at this
  simpa using this
end
/-- the cell of an index that is counted -/
theorem Rd.at {w : World} {A : Option Addr} {xs : List Value} {i : Nat} {v : Value} (h : Rd w A xs) (hi : xs[i]? = some v) : w.cell? ((adr A).add ((i : Int).toNat * 1)) = some v := by
  have := (h i v hi).2
  simpa using this
theorem Rd.atB {w : World} {A : Option Addr} {bs : List UInt8} {i : Nat} (h : Rd w A (bs.map vb)) (hi : i < bs.length) : w.cell? ((adr A).add ((i : Int).toNat * 1)) = some (vb (bs.getD i 0)) :=
  h.at (by simp [List.getD_eq_getElem?_getD, hi])
theorem Rd.some {w : World} {A : Option Addr} {bs : List UInt8} (h : Rd w A (bs.map vb)) (hi : 0 < bs.length) : A.isSome = true := (h 0 (vb bs[0]) (by simp [List.getElem?_eq_getElem hi])).1
theorem Own.ltA {w : World} {B e size n c : Nat} {A : Option Addr} {xs : List Value} (h : Own w B e size A n c xs) : ∀ i ∈ blkOf A, i < w.heap.size := by
  rcases h.form with ⟨rfl, _, _, _⟩ | ⟨g, cur, rfl, _, hg, _⟩
  · simp [blkOf]
  · simpa [blkOf] using hg.lt
end Go.Sx
