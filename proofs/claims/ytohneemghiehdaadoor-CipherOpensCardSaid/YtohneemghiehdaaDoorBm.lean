/- PLAIN: what the walks of the hash need of words, lists and cells. -/
import Derived.Test.YtohneemghiehdaaDoorSx9
import Derived.Test.YtohneemghiehdaaDoorBl
set_option linter.unusedVariables false
set_option linter.unusedSimpArgs false
namespace Go.Sx
open Go
/-- an octet of the orders -/
abbrev c8 (x : Nat) : Value := .int .u8 (x : Int)
theorem wIc {x : Int} {n : Nat} (h : x = (n : Int)) (hb : n < 9223372036854775808) : IntKind.i64.wrap x = (n : Int) := by
  subst h; exact wI (by omega) (by omega)
theorem getw {v : List (BitVec 32)} {a : Nat} (h : a < v.length) : (v.map w32)[0 + (a : Int).toNat * 1]? = some (w32 (v.getD a 0)) := by
  simp [List.getD_eq_getElem?_getD, h]
theorem setw (v : List (BitVec 32)) (a : Nat) (x : BitVec 32) : (v.map w32).set (0 + (a : Int).toNat * 1) (w32 x) = (v.set a x).map w32 := by
  simp [List.map_set]
theorem getwt {v : List (BitVec 32)} {tl : List Value} {a : Nat} (h : a < v.length) : (v.map w32 ++ tl)[0 + (a : Int).toNat * 1]? = some (w32 (v.getD a 0)) := by
  simp [List.getD_eq_getElem?_getD, List.getElem?_append, h]
theorem setwt (v : List (BitVec 32)) (tl : List Value) (a : Nat) (x : BitVec 32) (h : a < v.length) : (v.map w32 ++ tl).set (0 + (a : Int).toNat * 1) (w32 x) = (v.set a x).map w32 ++ tl := by
  simp [List.map_set, List.set_append, h]
theorem getc {v : List Nat} {a : Nat} (h : a < v.length) : (v.map c8)[0 + (a : Int).toNat * 1]? = some (c8 (v.getD a 0)) := by
  simp [List.getD_eq_getElem?_getD, h]
theorem rdB {w : World} {A : Addr} {bs : List UInt8} (h : Rd w (some A) (bs.map vb)) {i : Int} {n : Nat} (hi : i.toNat = n) (hl : n < bs.length) : w.cell? ((adr (some A)).add (i.toNat * 1)) = some (vb (bs.getD n 0)) := by
  subst hi
  rw [Nat.mul_one]
  exact (h i.toNat _ (by simp [List.getD_eq_getElem?_getD, hl])).2
theorem Rd.off {w : World} {A : Addr} {x : Value} {xs : List Value} {b : Nat} (h : Rd w (some A) (x :: xs)) (hb : b = w.heap.size) : Off (some A) [b] := by
  rintro a ⟨⟩ hm
  have := World.block_lt_of_cell? w _ (h 0 x rfl).2
  rw [block_add] at this
  simp only [adr, Option.getD_some, List.mem_singleton] at this hm
  omega
theorem Rd.offB {w : World} {A : Addr} {bs : List UInt8} {b : Nat} (h : Rd w (some A) (bs.map vb)) (hl : 0 < bs.length) (hb : b = w.heap.size) : Off (some A) [b] := by
  cases bs with
  | nil => simp at hl
  | cons x xs => exact Rd.off h hb
/-- i places are filled -/
def fillTo {α : Type} (z : α) (f : Nat → α) (n i : Nat) : List α := (List.range i).map f ++ List.replicate (n - i) z
theorem fillTo_length {α : Type} (z : α) (f : Nat → α) {n i : Nat} (h : i ≤ n) : (fillTo z f n i).length = n := by simp [fillTo]; omega
theorem fillTo_set {α : Type} (z : α) (f : Nat → α) {n i : Nat} (h : i < n) : (fillTo z f n i).set i (f i) = fillTo z f n (i + 1) := by
  unfold fillTo
  rw [List.set_append_right _ _ (by simp), List.range_succ, List.map_append, show n - i = (n - (i + 1)) + 1 by omega, List.replicate_succ]
  simp
theorem fillTo_all {α : Type} (z : α) (f : Nat → α) (n : Nat) : fillTo z f n n = (List.range n).map f := by simp [fillTo]
/-- i places are replaced -/
def mixed {α : Type} (f : Nat → α) (h : List α) (i : Nat) : List α := (List.range i).map f ++ h.drop i
theorem mixed_length {α : Type} (f : Nat → α) (h : List α) {i : Nat} (hi : i ≤ h.length) : (mixed f h i).length = h.length := by simp [mixed]; omega
theorem mixed_set {α : Type} (f : Nat → α) (h : List α) {i : Nat} (hi : i < h.length) : (mixed f h i).set i (f i) = mixed f h (i + 1) := by
  unfold mixed
  rw [List.set_append_right _ _ (by simp), List.range_succ, List.map_append, List.drop_eq_getElem_cons hi]
  simp only [List.length_map, List.length_range, Nat.sub_self, List.set_cons_zero, List.map_cons, List.map_nil, List.append_assoc, List.cons_append, List.nil_append]
theorem mixed_get {α : Type} (f : Nat → α) (h : List α) (z : α) {i : Nat} (hi : i < h.length) : (mixed f h i).getD i z = h.getD i z := by
  simp [mixed, List.getD_eq_getElem?_getD, List.getElem?_append]
theorem mixed_all {α : Type} (f : Nat → α) (h : List α) {n : Nat} (hn : h.length = n) : mixed f h n = (List.range n).map f := by simp [mixed, ← hn]
/-- the orders' cells -/
def ordC : List Value := Bl.orders.flatMap fun o => o.map c8
theorem ord_row : ∀ i, i < 10 → (ordC.toArray.extract (i * 16) (i * 16 + 16)).toList = (Bl.orders.getD i []).map c8 := by
  intro i hi
  have : ∀ k : Fin 10, (ordC.drop (k.1 * 16)).take 16 = (Bl.orders.getD k.1 []).map c8 := by
    intro k
    match k with
    | ⟨0, _⟩ => rfl | ⟨1, _⟩ => rfl | ⟨2, _⟩ => rfl | ⟨3, _⟩ => rfl | ⟨4, _⟩ => rfl
    | ⟨5, _⟩ => rfl | ⟨6, _⟩ => rfl | ⟨7, _⟩ => rfl | ⟨8, _⟩ => rfl | ⟨9, _⟩ => rfl
  have h := this ⟨i, hi⟩
  rw [← h]
  simp [List.extract_eq_take_drop]
theorem ord_ok : ∀ i, i < 10 → (Bl.orders.getD i []).length = 16 ∧ ∀ k, k < 16 → (Bl.orders.getD i []).getD k 0 < 16 := by
  have : ∀ i : Fin 10, (Bl.orders.getD i.1 []).length = 16 ∧ ∀ k : Fin 16, (Bl.orders.getD i.1 []).getD k.1 0 < 16 := by decide +kernel
  intro i hi
  exact ⟨(this ⟨i, hi⟩).1, fun k hk => (this ⟨i, hi⟩).2 ⟨k, hk⟩⟩
theorem ord_take {i : Nat} (h : i < 10) : Bl.orders.take (i + 1) = Bl.orders.take i ++ [Bl.orders.getD i []] := by
  rw [List.take_add_one]
  have : Bl.orders.length = 10 := rfl
  simp [List.getD_eq_getElem?_getD, this, h]
theorem lo32 (n : BitVec 64) : n.setWidth 32 = BitVec.ofNat 32 n.toNat := by simp
theorem hi32 (n : BitVec 64) : (n >>> 32).setWidth 32 = BitVec.ofNat 32 (n.toNat / 4294967296) := by
  apply BitVec.eq_of_toNat_eq
  simp [Nat.shiftRight_eq_div_pow]
theorem foldl_length {α : Type} {β : Type} (f : List α → β → List α) (hf : ∀ v x, (f v x).length = v.length) : ∀ (l : List β) (v : List α), (l.foldl f v).length = v.length
  | [], _ => rfl
  | x :: l, v => by rw [List.foldl_cons, foldl_length f hf l, hf]
theorem step_length (m : List (BitVec 32)) (o : List Nat) (v : List (BitVec 32)) (i : Nat) : (Bl.step m o v i).length = v.length := by
  unfold Bl.step
  split
  · exact Bl.stir_length ..
  · exact Bl.stir_length ..
theorem round_length (m v : List (BitVec 32)) (o : List Nat) : (Bl.round m v o).length = v.length := foldl_length _ (step_length m o) _ _
theorem range_foldl {α : Type} (f : α → Nat → α) (v : α) (i : Nat) : (List.range (i + 1)).foldl f v = f ((List.range i).foldl f v) i := by
  rw [List.range_succ, List.foldl_append]; rfl
theorem first_length : Bl.first.length = 8 := rfl
theorem start_length {h : List (BitVec 32)} (hh : h.length = 8) (n : Nat) (l : Bool) : (Bl.start h n l).length = 16 := by
  unfold Bl.start
  cases l <;> simp [hh, first_length]
end Go.Sx
namespace Go.Sx
open Go
theorem offlt {A : Addr} {b : Nat} (h : A.block ≠ b) : Off (some A) [b] := by
  rintro a ⟨⟩ hm
  exact h (by simpa using hm)
theorem Rd.lt {w : World} {A : Addr} {x : Value} {xs : List Value} (h : Rd w (some A) (x :: xs)) : A.block < w.heap.size := by
  have := World.block_lt_of_cell? w _ (h 0 x rfl).2
  rwa [block_add] at this
theorem Rd.ltB {w : World} {A : Addr} {bs : List UInt8} (h : Rd w (some A) (bs.map vb)) (hl : 0 < bs.length) : A.block < w.heap.size := by
  cases bs with
  | nil => simp at hl
  | cons x xs => exact Rd.lt h
theorem Rd.ltO {w : World} {A : Addr} (h : Rd w (some A) ordC) : A.block < w.heap.size := Rd.lt (x := ordC.head (by decide)) (xs := ordC.tail) (by rw [List.cons_head_tail]; exact h)
theorem Rd.pre {w : World} {b : Nat} {t : TypeId} {xs tl : List Value} (h : Blk w b t (xs ++ tl)) : Rd w (some ⟨b, 0, none⟩) xs := by
  have := Rd.ofBlk h 0 xs.length
  simpa using this
theorem allw {xs : List (BitVec 32)} : (xs.map w32).all (·.oneCell') = true := by simp [Value.oneCell']
theorem allc {xs : List Nat} : (xs.map c8).all (·.oneCell') = true := by simp [Value.oneCell']
theorem allb {xs : List UInt8} : (xs.map vb).all (·.oneCell') = true := by simp [Value.oneCell']
theorem cells8 (h : List (BitVec 32)) (hh : h.length = 8) : over (List.replicate 16 (.int .u32 0)) 0 (h.map w32) = (h ++ List.replicate 8 (0 : BitVec 32)).map w32 := by
  simp [over, hh]
theorem cells16 (h : List (BitVec 32)) (hh : h.length = 8) : over ((h ++ List.replicate 8 (0 : BitVec 32)).map w32) (0 + 8 * 1) (Bl.first.map w32) = (h ++ Bl.first).map w32 := by
  simp [over, hh, first_length]
theorem over16 {cs vs : List Value} (h : cs.length = 16) (k : vs.length = 16) : over cs 0 vs = vs := by
  simp [over, h, k]
theorem compl32 (a : BitVec 32) : IntKind.u32.wrap ((BitVec.ofInt IntKind.u32.bits (if IntKind.u32.signed then -1 else IntKind.u32.max) ^^^ BitVec.ofInt IntKind.u32.bits (a.toNat : Int)).toNat : Int) = ((~~~a).toNat : Int) := by
  show IntKind.u32.wrap ((BitVec.ofInt 32 4294967295 ^^^ BitVec.ofInt 32 (a.toNat : Int)).toNat : Int) = _
  simp only [ofInt_nat, BitVec.ofNat_toNat, BitVec.setWidth_eq]
  have : BitVec.ofInt 32 4294967295 ^^^ a = ~~~a := by
    rw [show BitVec.ofInt 32 4294967295 = BitVec.allOnes 32 by decide, BitVec.xor_comm, BitVec.xor_allOnes]
  rw [this, wU32]
  have := (~~~a).isLt
  omega
theorem start_bv (h : List (BitVec 32)) (n : BitVec 64) (last : Bool) : Bl.start h n.toNat last = (let v := h ++ Bl.first; let v := v.set 12 (v.getD 12 0 ^^^ n.setWidth 32); let v := v.set 13 (v.getD 13 0 ^^^ (n >>> 32).setWidth 32); if last then v.set 14 (~~~ (v.getD 14 0)) else v) := by
  unfold Bl.start; rw [lo32, hi32]
theorem ord_size (i : Nat) (hi : i < 10) : (ordC.toArray.extract (i * 16) (i * 16 + 16)).size = 16 := by
  rw [← Array.length_toList, ord_row i hi, List.length_map, (ord_ok i hi).1]
theorem remc (a b : Nat) : ((a : Int)).tmod (b : Int) = ((a % b : Nat) : Int) := rfl
theorem step_lo (m : List (BitVec 32)) (o : List Nat) (v : List (BitVec 32)) {j : Nat} (h : j < 4) : Bl.stir v j (4 + j) (8 + j) (12 + j) (m.getD (o.getD (2 * j) 0) 0) (m.getD (o.getD (2 * j + 1) 0) 0) = Bl.step m o v j := by
  rw [Bl.step, if_pos h]
theorem step_hi (m : List (BitVec 32)) (o : List Nat) (v : List (BitVec 32)) (j : Nat) : Bl.stir v j (4 + (j + 1) % 4) (8 + (j + 2) % 4) (12 + (j + 3) % 4) (m.getD (o.getD (8 + 2 * j) 0) 0) (m.getD (o.getD (9 + 2 * j) 0) 0) = Bl.step m o v (4 + j) := by
  rw [Bl.step, if_neg (by omega)]
  simp only [Nat.add_sub_cancel_left]
def _root_.Bl.outw (h v : List (BitVec 32)) (i : Nat) : BitVec 32 := h.getD i 0 ^^^ v.getD i 0 ^^^ v.getD (8 + i) 0
theorem _root_.Bl.outw_eq (h v : List (BitVec 32)) (i : Nat) : Bl.outw h v i = h.getD i 0 ^^^ (v.getD i 0 ^^^ v.getD (8 + i) 0) := by rw [Bl.outw, BitVec.xor_assoc]
theorem _root_.Bl.mix_eq (h : List (BitVec 32)) (b : List UInt8) (n : Nat) (last : Bool) : Bl.mix h b n last = (List.range 8).map (Bl.outw h (Bl.orders.foldl (Bl.round (Bl.words b)) (Bl.start h n last))) := rfl
theorem take10 : Bl.orders.take 10 = Bl.orders := rfl
end Go.Sx
namespace Go.Sx
open Go
def rotl (x : BitVec 32) (n : Nat) : BitVec 32 := (x <<< n) ||| (x >>> (32 - n))
theorem and31 (x : BitVec 64) : (x &&& 31#64).toNat ≤ 31 := by
  rw [BitVec.toNat_and]; exact Nat.and_le_right
theorem sub64n (a b : BitVec 64) (h : b.toNat ≤ a.toNat) : IntKind.u64.wrap ((a.toNat : Int) - (b.toNat : Int)) = ((a.toNat - b.toNat : Nat) : Int) := by
  have := a.isLt
  rw [wU64]; omega
end Go.Sx
namespace Go.Sx
theorem ordC_len : ordC.length = 160 := by decide +kernel
end Go.Sx
namespace Go.Sx
theorem round_one (m v : List (BitVec 32)) (o : List Nat) : [o].foldl (Bl.round m) v = (List.range (4 + 4)).foldl (Bl.step m o) v := by
  simp only [List.foldl_cons, List.foldl_nil, Bl.round]
end Go.Sx
