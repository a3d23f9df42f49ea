/- PLAIN: BLAKE2s on words of 32 bits, as the document defines it, in plain Lean. -/
set_option linter.unusedVariables false
set_option linter.unusedSimpArgs false
namespace Bl
abbrev W := BitVec 32
abbrev B := UInt8

/-- a word turned right -/
def ror (x : W) (n : Nat) : W := (x <<< (32 - n)) ||| (x >>> n)

/-- the steps of a stir -/
def addS (v : List W) (a b : Nat) (x : W) : List W := v.set a (v.getD a 0 + (v.getD b 0 + x))
def addT (v : List W) (a b : Nat) : List W := v.set a (v.getD a 0 + v.getD b 0)
def xorS (v : List W) (a b n : Nat) : List W := v.set a (ror (v.getD a 0 ^^^ v.getD b 0) n)
/-- stir: chapter 7 -/
def stir (v : List W) (a b c d : Nat) (x y : W) : List W :=
  xorS (addT (xorS (addS (xorS (addT (xorS (addS v a b x) d a 16) c d) b c 12) a b y) d a 8) c d) b c 7
theorem addS_length (v : List W) (a b : Nat) (x : W) : (addS v a b x).length = v.length := List.length_set
theorem addT_length (v : List W) (a b : Nat) : (addT v a b).length = v.length := List.length_set
theorem xorS_length (v : List W) (a b n : Nat) : (xorS v a b n).length = v.length := List.length_set
theorem stir_length (v : List W) (a b c d : Nat) (x y : W) : (stir v a b c d x y).length = v.length := by
  simp only [stir, addS_length, addT_length, xorS_length]

def orders : List (List Nat) :=
  [[0, 1, 2, 3, 4, 5, 6, 7, 8, 9, 10, 11, 12, 13, 14, 15],
   [14, 10, 4, 8, 9, 15, 13, 6, 1, 12, 0, 2, 11, 7, 5, 3],
   [11, 8, 12, 0, 5, 2, 15, 13, 10, 14, 3, 6, 7, 1, 9, 4],
   [7, 9, 3, 1, 13, 12, 11, 14, 2, 6, 5, 10, 4, 0, 15, 8],
   [9, 0, 5, 7, 2, 4, 10, 15, 14, 1, 11, 12, 6, 8, 3, 13],
   [2, 12, 6, 10, 0, 11, 8, 3, 4, 13, 7, 5, 15, 14, 1, 9],
   [12, 5, 1, 15, 14, 13, 4, 10, 0, 7, 6, 3, 9, 2, 8, 11],
   [13, 11, 7, 14, 12, 1, 3, 9, 5, 0, 15, 4, 8, 6, 2, 10],
   [6, 15, 14, 9, 11, 3, 0, 8, 12, 2, 13, 7, 1, 4, 10, 5],
   [10, 2, 8, 4, 7, 6, 1, 5, 15, 11, 9, 14, 3, 12, 13, 0]]

def first : List W := [0x6a09e667, 0xbb67ae85, 0x3c6ef372, 0xa54ff53a, 0x510e527f, 0x9b05688c, 0x1f83d9ab, 0x5be0cd19]

def word (b : List B) (i : Nat) : W :=
  (b.getD (4 * i) 0).toBitVec.setWidth 32 ||| (b.getD (4 * i + 1) 0).toBitVec.setWidth 32 <<< 8 ||| (b.getD (4 * i + 2) 0).toBitVec.setWidth 32 <<< 16 ||| (b.getD (4 * i + 3) 0).toBitVec.setWidth 32 <<< 24
def words (b : List B) : List W := (List.range 16).map (word b)

/-- step i of a round: 0 to 3 the columns, 4 to 7 the diagonals -/
def step (m : List W) (o : List Nat) (v : List W) (i : Nat) : List W :=
  if i < 4 then stir v i (4 + i) (8 + i) (12 + i) (m.getD (o.getD (2 * i) 0) 0) (m.getD (o.getD (2 * i + 1) 0) 0)
  else let j := i - 4
    stir v j (4 + (j + 1) % 4) (8 + (j + 2) % 4) (12 + (j + 3) % 4) (m.getD (o.getD (8 + 2 * j) 0) 0) (m.getD (o.getD (9 + 2 * j) 0) 0)
def round (m : List W) (v : List W) (o : List Nat) : List W := (List.range 8).foldl (step m o) v

def start (h : List W) (n : Nat) (last : Bool) : List W :=
  let v := h ++ first
  let v := v.set 12 (v.getD 12 0 ^^^ BitVec.ofNat 32 n)
  let v := v.set 13 (v.getD 13 0 ^^^ BitVec.ofNat 32 (n / 4294967296))
  if last then v.set 14 (~~~ (v.getD 14 0)) else v
def mix (h : List W) (b : List B) (n : Nat) (last : Bool) : List W :=
  let v := orders.foldl (round (words b)) (start h n last)
  (List.range 8).map fun i => h.getD i 0 ^^^ v.getD i 0 ^^^ v.getD (8 + i) 0

def bytesOf (h : List W) : List B := h.flatMap fun (x : W) => [UInt8.ofBitVec (x.setWidth 8), UInt8.ofBitVec ((x >>> 8).setWidth 8), UInt8.ofBitVec ((x >>> 16).setWidth 8), UInt8.ofBitVec ((x >>> 24).setWidth 8)]

def padded (b : List B) : List B := b ++ List.replicate (64 - b.length) 0

structure D where
  h : List W
  rest : List B
  n : Nat

def first0 (k : Nat) : List W := first.set 0 (0x6a09e667#32 ^^^ (0x01010000#32 ^^^ (BitVec.ofNat 32 k <<< 8) ^^^ 32#32))
def begin_ (key : List B) : D := ⟨first0 key.length, if key = [] then [] else padded key, 0⟩

def eat (fuel : Nat) (d : D) : D :=
  match fuel with
  | 0 => d
  | f + 1 => if 64 < d.rest.length then eat f ⟨mix d.h (d.rest.take 64) (d.n + 64) false, d.rest.drop 64, d.n + 64⟩ else d
def add (d : D) (b : List B) : D := let d := { d with rest := d.rest ++ b }; eat d.rest.length d
def sum (d : D) : List B := bytesOf (mix d.h (padded d.rest) (d.n + d.rest.length) true)
def of (l : List (List B)) : List B := sum (l.foldl add (begin_ []))
theorem abc : (of [[0x61, 0x62, 0x63]]).take 4 = [0x50, 0x8c, 0x5e, 0x8c] := by decide +kernel
end Bl
