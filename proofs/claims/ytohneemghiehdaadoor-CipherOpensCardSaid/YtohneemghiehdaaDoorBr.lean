/- PLAIN: the reference's words: turned bit by bit, read byte by byte. -/
import Derived.Test.YtohneemghiehdaaDoorBs
set_option linter.unusedVariables false
set_option linter.unusedSimpArgs false
namespace Go.Sx
open Go
/-- a word turned right by one -/
def rot1 (x : BitVec 32) : BitVec 32 := BitVec.ofNat 32 (x.toNat / 2 + x.toNat % 2 * 2147483648)
def rotN (x : BitVec 32) : Nat → BitVec 32
  | 0 => x
  | k + 1 => rot1 (rotN x k)
theorem rot1_nat (x : BitVec 32) : (rot1 x).toNat = x.toNat / 2 + x.toNat % 2 * 2147483648 := by
  have := x.isLt
  rw [rot1, BitVec.toNat_ofNat]
  omega
theorem rot1_bit (x : BitVec 32) (i : Nat) (hi : i < 32) : (rot1 x).getLsbD i = x.getLsbD ((i + 1) % 32) := by
  have e : rot1 x = (x >>> 1) ||| (x <<< 31) := by
    apply BitVec.eq_of_toNat_eq
    rw [rot1_nat, BitVec.toNat_or, BitVec.toNat_shiftLeft, BitVec.toNat_ushiftRight]
    have hx := x.isLt
    have h1 : x.toNat <<< 31 % 2 ^ 32 = (x.toNat % 2) <<< 31 := by
      rw [Nat.shiftLeft_eq, Nat.shiftLeft_eq]; omega
    rw [h1, Nat.or_comm, ← Nat.shiftLeft_add_eq_or_of_lt (by rw [Nat.shiftRight_eq_div_pow]; omega), Nat.shiftLeft_eq, Nat.shiftRight_eq_div_pow]
    omega
  rw [e, BitVec.getLsbD_or, BitVec.getLsbD_ushiftRight, BitVec.getLsbD_shiftLeft]
  rcases Nat.lt_or_ge i 31 with h | h
  · have : (i + 1) % 32 = 1 + i := by omega
    rw [this]
    simp [h]
  · have : i = 31 := by omega
    subst this
    simp
theorem rotN_bit (x : BitVec 32) : ∀ (k i : Nat), i < 32 → (rotN x k).getLsbD i = x.getLsbD ((i + k) % 32)
  | 0, i, hi => by rw [rotN, Nat.add_zero, Nat.mod_eq_of_lt hi]
  | k + 1, i, hi => by
    rw [rotN, rot1_bit _ _ hi, rotN_bit x k _ (Nat.mod_lt _ (by decide))]
    congr 1
    omega
theorem ror_bit (x : BitVec 32) (n i : Nat) (hn : n < 32) (hi : i < 32) : (Bl.ror x n).getLsbD i = x.getLsbD ((i + n) % 32) := by
  rw [Bl.ror, BitVec.getLsbD_or, BitVec.getLsbD_ushiftRight, BitVec.getLsbD_shiftLeft]
  rcases Nat.lt_or_ge (i + n) 32 with h | h
  · have e : (i + n) % 32 = n + i := by omega
    rw [e]
    have : i < 32 - n := by omega
    simp [this]
  · have e : (i + n) % 32 = i - (32 - n) := by omega
    rw [e]
    have h1 : ¬ i < 32 - n := by omega
    have h2 : x.getLsbD (n + i) = false := BitVec.getLsbD_of_ge x _ (by omega)
    simp [h1, h2, hi]
theorem rotN_ror (x : BitVec 32) (n : Nat) (hn : n < 32) : rotN x n = Bl.ror x n := by
  apply BitVec.eq_of_getLsbD_eq
  intro i hi
  rw [rotN_bit x n i hi, ror_bit x n i hn hi]
/-- a step of the reading of a word -/
def inB (m : BitVec 32) (b : UInt8) : BitVec 32 := BitVec.ofNat 32 (m.toNat / 256 + b.toNat * 16777216)
theorem inB_nat (m : BitVec 32) (b : UInt8) : (inB m b).toNat = m.toNat / 256 + b.toNat * 16777216 := by
  have := m.isLt
  have : b.toNat < 256 := b.toBitVec.isLt
  rw [inB, BitVec.toNat_ofNat]
  omega
theorem word_nat (bs : List UInt8) (i : Nat) : (Bl.word bs i).toNat = (bs.getD (4 * i) 0).toNat + 256 * (bs.getD (4 * i + 1) 0).toNat + 65536 * (bs.getD (4 * i + 2) 0).toNat + 16777216 * (bs.getD (4 * i + 3) 0).toNat := by
  unfold Bl.word
  generalize bs.getD (4 * i) 0 = a
  generalize bs.getD (4 * i + 1) 0 = b
  generalize bs.getD (4 * i + 2) 0 = c
  generalize bs.getD (4 * i + 3) 0 = d
  have ha : a.toBitVec.toNat < 256 := a.toBitVec.isLt
  have hb : b.toBitVec.toNat < 256 := b.toBitVec.isLt
  have hc : c.toBitVec.toNat < 256 := c.toBitVec.isLt
  have hd : d.toBitVec.toNat < 256 := d.toBitVec.isLt
  simp only [BitVec.toNat_or, BitVec.toNat_shiftLeft, BitVec.toNat_setWidth]
  show _ = a.toBitVec.toNat + 256 * b.toBitVec.toNat + 65536 * c.toBitVec.toNat + 16777216 * d.toBitVec.toNat
  generalize a.toBitVec.toNat = a at *
  generalize b.toBitVec.toNat = b at *
  generalize c.toBitVec.toNat = c at *
  generalize d.toBitVec.toNat = d at *
  have e1 : (b % 2 ^ 32) <<< 8 % 2 ^ 32 = b <<< 8 := by rw [Nat.shiftLeft_eq, Nat.shiftLeft_eq]; omega
  have e2 : (c % 2 ^ 32) <<< 16 % 2 ^ 32 = c <<< 16 := by rw [Nat.shiftLeft_eq, Nat.shiftLeft_eq]; omega
  have e3 : (d % 2 ^ 32) <<< 24 % 2 ^ 32 = d <<< 24 := by rw [Nat.shiftLeft_eq, Nat.shiftLeft_eq]; omega
  rw [e1, e2, e3, Nat.mod_eq_of_lt (show a < 2 ^ 32 by omega)]
  rw [Nat.or_comm a, ← Nat.shiftLeft_add_eq_or_of_lt (show a < 2 ^ 8 by omega)]
  rw [Nat.or_comm (b <<< 8 + a), ← Nat.shiftLeft_add_eq_or_of_lt (show b <<< 8 + a < 2 ^ 16 by rw [Nat.shiftLeft_eq]; omega)]
  rw [Nat.or_comm (c <<< 16 + _), ← Nat.shiftLeft_add_eq_or_of_lt (show c <<< 16 + (b <<< 8 + a) < 2 ^ 24 by rw [Nat.shiftLeft_eq, Nat.shiftLeft_eq]; omega)]
  simp only [Nat.shiftLeft_eq]
  omega
def inN (bs : List UInt8) (i : Nat) : Nat → BitVec 32
  | 0 => 0
  | k + 1 => inB (inN bs i k) (bs.getD (4 * i + k) 0)
theorem inN_word (bs : List UInt8) (i : Nat) : inN bs i 4 = Bl.word bs i := by
  apply BitVec.eq_of_toNat_eq
  rw [word_nat]
  simp only [inN, inB_nat, Nat.add_zero]
  have ha : (bs.getD (4 * i) 0).toNat < 256 := (bs.getD (4 * i) 0).toBitVec.isLt
  have hb : (bs.getD (4 * i + 1) 0).toNat < 256 := (bs.getD (4 * i + 1) 0).toBitVec.isLt
  have hc : (bs.getD (4 * i + 2) 0).toNat < 256 := (bs.getD (4 * i + 2) 0).toBitVec.isLt
  have hd : (bs.getD (4 * i + 3) 0).toNat < 256 := (bs.getD (4 * i + 3) 0).toBitVec.isLt
  show (((BitVec.toNat 0 / 256 + _) / 256 + _) / 256 + _) / 256 + _ = _
  have : (0 : BitVec 32).toNat = 0 := rfl
  rw [this]
  omega
/-- the reference's rows -/
def rows8 : List (List Nat) := [[0, 4, 8, 12], [1, 5, 9, 13], [2, 6, 10, 14], [3, 7, 11, 15], [0, 5, 10, 15], [1, 6, 11, 12], [2, 7, 8, 13], [3, 4, 9, 14]]
def rrow (i k : Nat) : Nat := (rows8.getD i []).getD k 0
theorem row_step (m : List (BitVec 32)) (o : List Nat) (v : List (BitVec 32)) {i : Nat} (h : i < 8) :
    Bl.stir v (rrow i 0) (rrow i 1) (rrow i 2) (rrow i 3) (m.getD (o.getD (2 * i) 0) 0) (m.getD (o.getD (2 * i + 1) 0) 0) = Bl.step m o v i := by
  match i, h with
  | 0, _ | 1, _ | 2, _ | 3, _ | 4, _ | 5, _ | 6, _ | 7, _ => rfl
theorem rrow_lt {i k : Nat} (h : i < 8) (hk : k < 4) : rrow i k < 16 := by
  have : ∀ i : Fin 8, ∀ k : Fin 4, rrow i.1 k.1 < 16 := by decide
  exact this ⟨i, h⟩ ⟨k, hk⟩

abbrev ci (x : Nat) : Value := .int .i64 (x : Int)
theorem getci {v : List Nat} {a : Nat} (h : a < v.length) : (v.map ci)[0 + (a : Int).toNat * 1]? = some (ci (v.getD a 0)) := by
  simp [List.getD_eq_getElem?_getD, h]
theorem allci {xs : List Nat} : (xs.map ci).all (·.oneCell') = true := by simp [Value.oneCell']
def ordCI : List Value := Bl.orders.flatMap fun o => o.map ci
def rowCI : List Value := rows8.flatMap fun o => o.map ci
theorem ordI_row : ∀ i, i < 10 → (ordCI.toArray.extract (i * 16) (i * 16 + 16)).toList = (Bl.orders.getD i []).map ci := by
  intro i hi
  have : ∀ k : Fin 10, (ordCI.drop (k.1 * 16)).take 16 = (Bl.orders.getD k.1 []).map ci := by
    intro k
    match k with
    | ⟨0, _⟩ => rfl | ⟨1, _⟩ => rfl | ⟨2, _⟩ => rfl | ⟨3, _⟩ => rfl | ⟨4, _⟩ => rfl
    | ⟨5, _⟩ => rfl | ⟨6, _⟩ => rfl | ⟨7, _⟩ => rfl | ⟨8, _⟩ => rfl | ⟨9, _⟩ => rfl
  have h := this ⟨i, hi⟩
  rw [← h]
  simp [List.extract_eq_take_drop]
theorem rowI_row : ∀ i, i < 8 → (rowCI.toArray.extract (i * 4) (i * 4 + 4)).toList = (rows8.getD i []).map ci := by
  intro i hi
  have : ∀ k : Fin 8, (rowCI.drop (k.1 * 4)).take 4 = (rows8.getD k.1 []).map ci := by
    intro k
    match k with
    | ⟨0, _⟩ => rfl | ⟨1, _⟩ => rfl | ⟨2, _⟩ => rfl | ⟨3, _⟩ => rfl | ⟨4, _⟩ => rfl
    | ⟨5, _⟩ => rfl | ⟨6, _⟩ => rfl | ⟨7, _⟩ => rfl
  have h := this ⟨i, hi⟩
  rw [← h]
  simp [List.extract_eq_take_drop]
theorem ordI_size (i : Nat) (hi : i < 10) : (ordCI.toArray.extract (i * 16) (i * 16 + 16)).size = 16 := by
  rw [← Array.length_toList, ordI_row i hi, List.length_map, (ord_ok i hi).1]
theorem row_len {i : Nat} (h : i < 8) : (rows8.getD i []).length = 4 := by
  have : ∀ i : Fin 8, (rows8.getD i.1 []).length = 4 := by decide
  exact this ⟨i, h⟩
theorem rowI_size (i : Nat) (hi : i < 8) : (rowCI.toArray.extract (i * 4) (i * 4 + 4)).size = 4 := by
  rw [← Array.length_toList, rowI_row i hi, List.length_map, row_len hi]
theorem over4 {cs vs : List Value} {n : Nat} (h : cs.length = n) (k : vs.length = n) : over cs 0 vs = vs := by
  simp [over, h, k]
theorem fill_zero {α : Type} (z : α) (f : Nat → α) {n i : Nat} (h : i < n) : (fillTo z f n i).set i z = fillTo z f n i := by
  unfold fillTo
  rw [List.set_append_right _ _ (by simp)]
  obtain ⟨k, hk⟩ : ∃ k, n - i = k + 1 := ⟨n - i - 1, by omega⟩
  rw [hk, List.replicate_succ]
  simp
theorem set_get {α : Type} (z : α) (l : List α) {i : Nat} (x : α) (h : i < l.length) : (l.set i x).getD i z = x := by
  simp [List.getD_eq_getElem?_getD, h]
/-- two rows that are filled at once -/
def fill2 (h : List (BitVec 32)) (i : Nat) : List (BitVec 32) := fillTo 0 (fun j => h.getD j 0) 8 i ++ fillTo 0 (fun j => Bl.first.getD j 0) 8 i
theorem fill2_len (h : List (BitVec 32)) {i : Nat} (hi : i ≤ 8) : (fill2 h i).length = 16 := by
  rw [fill2, List.length_append, fillTo_length _ _ hi, fillTo_length _ _ hi]
theorem fill2_zero (h : List (BitVec 32)) : fill2 h 0 = List.replicate 16 0 := rfl
theorem fill2_set (h : List (BitVec 32)) {i : Nat} (hi : i < 8) : ((fill2 h i).set i (h.getD i 0)).set (i + 8) (Bl.first.getD i 0) = fill2 h (i + 1) := by
  unfold fill2
  have hl := fillTo_length (0 : BitVec 32) (fun j => h.getD j 0) (n := 8) (i := i) (by omega)
  rw [List.set_append_left _ _ (by omega), List.set_append_right _ _ (by rw [List.length_set]; omega), List.length_set, hl]
  rw [fillTo_set (0 : BitVec 32) (fun j => h.getD j 0) hi, Nat.add_sub_cancel, fillTo_set (0 : BitVec 32) (fun j => Bl.first.getD j 0) hi]
theorem fill2_all (h : List (BitVec 32)) (hh : h.length = 8) : fill2 h 8 = h ++ Bl.first := by
  unfold fill2
  rw [fillTo_all, fillTo_all]
  congr 1
  apply List.ext_getElem
  · simp [hh]
  · intro i h1 h2
    simp [List.getD_eq_getElem?_getD, h2]
theorem compl_sub (a : BitVec 32) : IntKind.u32.wrap (4294967295 - (a.toNat : Int)) = ((~~~ a).toNat : Int) := by
  have := a.isLt
  rw [wU32, BitVec.toNat_not]; omega
theorem start_ref (h : List (BitVec 32)) (n : Nat) (last : Bool) : Bl.start h n last = (let v := h ++ Bl.first; let v := v.set 12 (v.getD 12 0 ^^^ BitVec.ofNat 32 n); let v := v.set 13 (v.getD 13 0 ^^^ BitVec.ofNat 32 (n / 4294967296)); if last then v.set 14 (~~~ (v.getD 14 0)) else v) := rfl
theorem lo_n (n : Nat) : IntKind.u32.wrap (((BitVec.ofNat 64 n).toNat % 4294967296 : Nat) : Int) = ((BitVec.ofNat 32 n).toNat : Int) := by
  rw [wU32, BitVec.toNat_ofNat, BitVec.toNat_ofNat]; omega
theorem hi_n (n : Nat) (h : n < 18446744073709551616) : IntKind.u32.wrap (((BitVec.ofNat 64 n).toNat / 4294967296 : Nat) : Int) = ((BitVec.ofNat 32 (n / 4294967296)).toNat : Int) := by
  rw [wU32, BitVec.toNat_ofNat, BitVec.toNat_ofNat]; omega
theorem quoN (a b : Nat) (k : IntKind) (hk : k = .u64 ∨ k = .u32) (ha : a < 4294967296 ∨ k = .u64 ∧ a < 18446744073709551616) : k.wrap (((a : Int)).tdiv (b : Int)) = ((a / b : Nat) : Int) := by
  have e : ((a : Int)).tdiv (b : Int) = ((a / b : Nat) : Int) := rfl
  have := Nat.div_le_self a b
  rw [e]
  clear e
  generalize a / b = q at *
  rcases hk with rfl | rfl
  · rw [wU64]; omega
  · rw [wU32]
    rcases ha with ha | ⟨ha, _⟩
    · omega
    · cases ha
end Go.Sx
namespace Go.Sx
theorem round_one8 (m v : List (BitVec 32)) (o : List Nat) : List.foldl (Bl.round m) v [o] = (List.range 8).foldl (Bl.step m o) v := by
  rw [List.foldl_cons, List.foldl_nil, Bl.round]
end Go.Sx
