/- LX, second part: the words in which a function's pure text is written; no program in sight. -/
set_option linter.unusedVariables false
set_option linter.unusedSimpArgs false
namespace Go.Lx
/-- fits a Go int -/
def Ck (n : Int) : Prop := -9223372036854775808 ≤ n ∧ n ≤ 9223372036854775807
/-- so many elements of so many bytes may be -/
def Rm (b n : Nat) : Prop := n * b ≤ 140737488355328
def cut {α : Type} (xs : List α) (lo hi : Int) : List α := (xs.drop lo.toNat).take (hi.toNat - lo.toNat)
def put {α : Type} (xs : List α) (i : Int) (x : α) : List α := xs.set i.toNat x
/-- on whole numbers of 64 bits -/
def shrI (m k : Int) : Int := m.fdiv (2 ^ (min k.toNat 64))
def andI (m n : Int) : Int := (BitVec.ofInt 64 m &&& BitVec.ofInt 64 n).toInt
def Lp0 (body : Prop → Prop) : Prop := ∃ (I : Nat → Prop) (n : Nat), I n ∧ ∀ n, I n → body (∃ m, m < n ∧ I m)
def Jn0 (rest : Prop) (body : Prop → Prop) : Prop := ∃ J : Prop, (J → rest) ∧ body J
def Lp1 {S0 : Type} (body : S0 → (S0 → Prop) → Prop) (x0 : S0) : Prop := ∃ (I : Nat → S0 → Prop) (n : Nat), I n x0 ∧ ∀ n x0, I n x0 → body x0 (fun x0 => ∃ m, m < n ∧ I m x0)
def Jn1 {S0 : Type} (rest : S0 → Prop) (body : (S0 → Prop) → Prop) : Prop := ∃ J : S0 → Prop, (∀ x0, J x0 → rest x0) ∧ body J
def Lp2 {S0 S1 : Type} (body : S0 → S1 → (S0 → S1 → Prop) → Prop) (x0 : S0) (x1 : S1) : Prop := ∃ (I : Nat → S0 → S1 → Prop) (n : Nat), I n x0 x1 ∧ ∀ n x0 x1, I n x0 x1 → body x0 x1 (fun x0 x1 => ∃ m, m < n ∧ I m x0 x1)
def Jn2 {S0 S1 : Type} (rest : S0 → S1 → Prop) (body : (S0 → S1 → Prop) → Prop) : Prop := ∃ J : S0 → S1 → Prop, (∀ x0 x1, J x0 x1 → rest x0 x1) ∧ body J
def Lp3 {S0 S1 S2 : Type} (body : S0 → S1 → S2 → (S0 → S1 → S2 → Prop) → Prop) (x0 : S0) (x1 : S1) (x2 : S2) : Prop := ∃ (I : Nat → S0 → S1 → S2 → Prop) (n : Nat), I n x0 x1 x2 ∧ ∀ n x0 x1 x2, I n x0 x1 x2 → body x0 x1 x2 (fun x0 x1 x2 => ∃ m, m < n ∧ I m x0 x1 x2)
def Jn3 {S0 S1 S2 : Type} (rest : S0 → S1 → S2 → Prop) (body : (S0 → S1 → S2 → Prop) → Prop) : Prop := ∃ J : S0 → S1 → S2 → Prop, (∀ x0 x1 x2, J x0 x1 x2 → rest x0 x1 x2) ∧ body J
def Lp4 {S0 S1 S2 S3 : Type} (body : S0 → S1 → S2 → S3 → (S0 → S1 → S2 → S3 → Prop) → Prop) (x0 : S0) (x1 : S1) (x2 : S2) (x3 : S3) : Prop := ∃ (I : Nat → S0 → S1 → S2 → S3 → Prop) (n : Nat), I n x0 x1 x2 x3 ∧ ∀ n x0 x1 x2 x3, I n x0 x1 x2 x3 → body x0 x1 x2 x3 (fun x0 x1 x2 x3 => ∃ m, m < n ∧ I m x0 x1 x2 x3)
def Jn4 {S0 S1 S2 S3 : Type} (rest : S0 → S1 → S2 → S3 → Prop) (body : (S0 → S1 → S2 → S3 → Prop) → Prop) : Prop := ∃ J : S0 → S1 → S2 → S3 → Prop, (∀ x0 x1 x2 x3, J x0 x1 x2 x3 → rest x0 x1 x2 x3) ∧ body J
def Lp5 {S0 S1 S2 S3 S4 : Type} (body : S0 → S1 → S2 → S3 → S4 → (S0 → S1 → S2 → S3 → S4 → Prop) → Prop) (x0 : S0) (x1 : S1) (x2 : S2) (x3 : S3) (x4 : S4) : Prop := ∃ (I : Nat → S0 → S1 → S2 → S3 → S4 → Prop) (n : Nat), I n x0 x1 x2 x3 x4 ∧ ∀ n x0 x1 x2 x3 x4, I n x0 x1 x2 x3 x4 → body x0 x1 x2 x3 x4 (fun x0 x1 x2 x3 x4 => ∃ m, m < n ∧ I m x0 x1 x2 x3 x4)
def Jn5 {S0 S1 S2 S3 S4 : Type} (rest : S0 → S1 → S2 → S3 → S4 → Prop) (body : (S0 → S1 → S2 → S3 → S4 → Prop) → Prop) : Prop := ∃ J : S0 → S1 → S2 → S3 → S4 → Prop, (∀ x0 x1 x2 x3 x4, J x0 x1 x2 x3 x4 → rest x0 x1 x2 x3 x4) ∧ body J
def Lp6 {S0 S1 S2 S3 S4 S5 : Type} (body : S0 → S1 → S2 → S3 → S4 → S5 → (S0 → S1 → S2 → S3 → S4 → S5 → Prop) → Prop) (x0 : S0) (x1 : S1) (x2 : S2) (x3 : S3) (x4 : S4) (x5 : S5) : Prop := ∃ (I : Nat → S0 → S1 → S2 → S3 → S4 → S5 → Prop) (n : Nat), I n x0 x1 x2 x3 x4 x5 ∧ ∀ n x0 x1 x2 x3 x4 x5, I n x0 x1 x2 x3 x4 x5 → body x0 x1 x2 x3 x4 x5 (fun x0 x1 x2 x3 x4 x5 => ∃ m, m < n ∧ I m x0 x1 x2 x3 x4 x5)
def Jn6 {S0 S1 S2 S3 S4 S5 : Type} (rest : S0 → S1 → S2 → S3 → S4 → S5 → Prop) (body : (S0 → S1 → S2 → S3 → S4 → S5 → Prop) → Prop) : Prop := ∃ J : S0 → S1 → S2 → S3 → S4 → S5 → Prop, (∀ x0 x1 x2 x3 x4 x5, J x0 x1 x2 x3 x4 x5 → rest x0 x1 x2 x3 x4 x5) ∧ body J
def Lp7 {S0 S1 S2 S3 S4 S5 S6 : Type} (body : S0 → S1 → S2 → S3 → S4 → S5 → S6 → (S0 → S1 → S2 → S3 → S4 → S5 → S6 → Prop) → Prop) (x0 : S0) (x1 : S1) (x2 : S2) (x3 : S3) (x4 : S4) (x5 : S5) (x6 : S6) : Prop := ∃ (I : Nat → S0 → S1 → S2 → S3 → S4 → S5 → S6 → Prop) (n : Nat), I n x0 x1 x2 x3 x4 x5 x6 ∧ ∀ n x0 x1 x2 x3 x4 x5 x6, I n x0 x1 x2 x3 x4 x5 x6 → body x0 x1 x2 x3 x4 x5 x6 (fun x0 x1 x2 x3 x4 x5 x6 => ∃ m, m < n ∧ I m x0 x1 x2 x3 x4 x5 x6)
def Jn7 {S0 S1 S2 S3 S4 S5 S6 : Type} (rest : S0 → S1 → S2 → S3 → S4 → S5 → S6 → Prop) (body : (S0 → S1 → S2 → S3 → S4 → S5 → S6 → Prop) → Prop) : Prop := ∃ J : S0 → S1 → S2 → S3 → S4 → S5 → S6 → Prop, (∀ x0 x1 x2 x3 x4 x5 x6, J x0 x1 x2 x3 x4 x5 x6 → rest x0 x1 x2 x3 x4 x5 x6) ∧ body J
def Lp8 {S0 S1 S2 S3 S4 S5 S6 S7 : Type} (body : S0 → S1 → S2 → S3 → S4 → S5 → S6 → S7 → (S0 → S1 → S2 → S3 → S4 → S5 → S6 → S7 → Prop) → Prop) (x0 : S0) (x1 : S1) (x2 : S2) (x3 : S3) (x4 : S4) (x5 : S5) (x6 : S6) (x7 : S7) : Prop := ∃ (I : Nat → S0 → S1 → S2 → S3 → S4 → S5 → S6 → S7 → Prop) (n : Nat), I n x0 x1 x2 x3 x4 x5 x6 x7 ∧ ∀ n x0 x1 x2 x3 x4 x5 x6 x7, I n x0 x1 x2 x3 x4 x5 x6 x7 → body x0 x1 x2 x3 x4 x5 x6 x7 (fun x0 x1 x2 x3 x4 x5 x6 x7 => ∃ m, m < n ∧ I m x0 x1 x2 x3 x4 x5 x6 x7)
def Jn8 {S0 S1 S2 S3 S4 S5 S6 S7 : Type} (rest : S0 → S1 → S2 → S3 → S4 → S5 → S6 → S7 → Prop) (body : (S0 → S1 → S2 → S3 → S4 → S5 → S6 → S7 → Prop) → Prop) : Prop := ∃ J : S0 → S1 → S2 → S3 → S4 → S5 → S6 → S7 → Prop, (∀ x0 x1 x2 x3 x4 x5 x6 x7, J x0 x1 x2 x3 x4 x5 x6 x7 → rest x0 x1 x2 x3 x4 x5 x6 x7) ∧ body J
def Lp9 {S0 S1 S2 S3 S4 S5 S6 S7 S8 : Type} (body : S0 → S1 → S2 → S3 → S4 → S5 → S6 → S7 → S8 → (S0 → S1 → S2 → S3 → S4 → S5 → S6 → S7 → S8 → Prop) → Prop) (x0 : S0) (x1 : S1) (x2 : S2) (x3 : S3) (x4 : S4) (x5 : S5) (x6 : S6) (x7 : S7) (x8 : S8) : Prop := ∃ (I : Nat → S0 → S1 → S2 → S3 → S4 → S5 → S6 → S7 → S8 → Prop) (n : Nat), I n x0 x1 x2 x3 x4 x5 x6 x7 x8 ∧ ∀ n x0 x1 x2 x3 x4 x5 x6 x7 x8, I n x0 x1 x2 x3 x4 x5 x6 x7 x8 → body x0 x1 x2 x3 x4 x5 x6 x7 x8 (fun x0 x1 x2 x3 x4 x5 x6 x7 x8 => ∃ m, m < n ∧ I m x0 x1 x2 x3 x4 x5 x6 x7 x8)
def Jn9 {S0 S1 S2 S3 S4 S5 S6 S7 S8 : Type} (rest : S0 → S1 → S2 → S3 → S4 → S5 → S6 → S7 → S8 → Prop) (body : (S0 → S1 → S2 → S3 → S4 → S5 → S6 → S7 → S8 → Prop) → Prop) : Prop := ∃ J : S0 → S1 → S2 → S3 → S4 → S5 → S6 → S7 → S8 → Prop, (∀ x0 x1 x2 x3 x4 x5 x6 x7 x8, J x0 x1 x2 x3 x4 x5 x6 x7 x8 → rest x0 x1 x2 x3 x4 x5 x6 x7 x8) ∧ body J
def Lp10 {S0 S1 S2 S3 S4 S5 S6 S7 S8 S9 : Type} (body : S0 → S1 → S2 → S3 → S4 → S5 → S6 → S7 → S8 → S9 → (S0 → S1 → S2 → S3 → S4 → S5 → S6 → S7 → S8 → S9 → Prop) → Prop) (x0 : S0) (x1 : S1) (x2 : S2) (x3 : S3) (x4 : S4) (x5 : S5) (x6 : S6) (x7 : S7) (x8 : S8) (x9 : S9) : Prop := ∃ (I : Nat → S0 → S1 → S2 → S3 → S4 → S5 → S6 → S7 → S8 → S9 → Prop) (n : Nat), I n x0 x1 x2 x3 x4 x5 x6 x7 x8 x9 ∧ ∀ n x0 x1 x2 x3 x4 x5 x6 x7 x8 x9, I n x0 x1 x2 x3 x4 x5 x6 x7 x8 x9 → body x0 x1 x2 x3 x4 x5 x6 x7 x8 x9 (fun x0 x1 x2 x3 x4 x5 x6 x7 x8 x9 => ∃ m, m < n ∧ I m x0 x1 x2 x3 x4 x5 x6 x7 x8 x9)
def Jn10 {S0 S1 S2 S3 S4 S5 S6 S7 S8 S9 : Type} (rest : S0 → S1 → S2 → S3 → S4 → S5 → S6 → S7 → S8 → S9 → Prop) (body : (S0 → S1 → S2 → S3 → S4 → S5 → S6 → S7 → S8 → S9 → Prop) → Prop) : Prop := ∃ J : S0 → S1 → S2 → S3 → S4 → S5 → S6 → S7 → S8 → S9 → Prop, (∀ x0 x1 x2 x3 x4 x5 x6 x7 x8 x9, J x0 x1 x2 x3 x4 x5 x6 x7 x8 x9 → rest x0 x1 x2 x3 x4 x5 x6 x7 x8 x9) ∧ body J
def Lp11 {S0 S1 S2 S3 S4 S5 S6 S7 S8 S9 S10 : Type} (body : S0 → S1 → S2 → S3 → S4 → S5 → S6 → S7 → S8 → S9 → S10 → (S0 → S1 → S2 → S3 → S4 → S5 → S6 → S7 → S8 → S9 → S10 → Prop) → Prop) (x0 : S0) (x1 : S1) (x2 : S2) (x3 : S3) (x4 : S4) (x5 : S5) (x6 : S6) (x7 : S7) (x8 : S8) (x9 : S9) (x10 : S10) : Prop := ∃ (I : Nat → S0 → S1 → S2 → S3 → S4 → S5 → S6 → S7 → S8 → S9 → S10 → Prop) (n : Nat), I n x0 x1 x2 x3 x4 x5 x6 x7 x8 x9 x10 ∧ ∀ n x0 x1 x2 x3 x4 x5 x6 x7 x8 x9 x10, I n x0 x1 x2 x3 x4 x5 x6 x7 x8 x9 x10 → body x0 x1 x2 x3 x4 x5 x6 x7 x8 x9 x10 (fun x0 x1 x2 x3 x4 x5 x6 x7 x8 x9 x10 => ∃ m, m < n ∧ I m x0 x1 x2 x3 x4 x5 x6 x7 x8 x9 x10)
def Jn11 {S0 S1 S2 S3 S4 S5 S6 S7 S8 S9 S10 : Type} (rest : S0 → S1 → S2 → S3 → S4 → S5 → S6 → S7 → S8 → S9 → S10 → Prop) (body : (S0 → S1 → S2 → S3 → S4 → S5 → S6 → S7 → S8 → S9 → S10 → Prop) → Prop) : Prop := ∃ J : S0 → S1 → S2 → S3 → S4 → S5 → S6 → S7 → S8 → S9 → S10 → Prop, (∀ x0 x1 x2 x3 x4 x5 x6 x7 x8 x9 x10, J x0 x1 x2 x3 x4 x5 x6 x7 x8 x9 x10 → rest x0 x1 x2 x3 x4 x5 x6 x7 x8 x9 x10) ∧ body J
def Lp12 {S0 S1 S2 S3 S4 S5 S6 S7 S8 S9 S10 S11 : Type} (body : S0 → S1 → S2 → S3 → S4 → S5 → S6 → S7 → S8 → S9 → S10 → S11 → (S0 → S1 → S2 → S3 → S4 → S5 → S6 → S7 → S8 → S9 → S10 → S11 → Prop) → Prop) (x0 : S0) (x1 : S1) (x2 : S2) (x3 : S3) (x4 : S4) (x5 : S5) (x6 : S6) (x7 : S7) (x8 : S8) (x9 : S9) (x10 : S10) (x11 : S11) : Prop := ∃ (I : Nat → S0 → S1 → S2 → S3 → S4 → S5 → S6 → S7 → S8 → S9 → S10 → S11 → Prop) (n : Nat), I n x0 x1 x2 x3 x4 x5 x6 x7 x8 x9 x10 x11 ∧ ∀ n x0 x1 x2 x3 x4 x5 x6 x7 x8 x9 x10 x11, I n x0 x1 x2 x3 x4 x5 x6 x7 x8 x9 x10 x11 → body x0 x1 x2 x3 x4 x5 x6 x7 x8 x9 x10 x11 (fun x0 x1 x2 x3 x4 x5 x6 x7 x8 x9 x10 x11 => ∃ m, m < n ∧ I m x0 x1 x2 x3 x4 x5 x6 x7 x8 x9 x10 x11)
def Jn12 {S0 S1 S2 S3 S4 S5 S6 S7 S8 S9 S10 S11 : Type} (rest : S0 → S1 → S2 → S3 → S4 → S5 → S6 → S7 → S8 → S9 → S10 → S11 → Prop) (body : (S0 → S1 → S2 → S3 → S4 → S5 → S6 → S7 → S8 → S9 → S10 → S11 → Prop) → Prop) : Prop := ∃ J : S0 → S1 → S2 → S3 → S4 → S5 → S6 → S7 → S8 → S9 → S10 → S11 → Prop, (∀ x0 x1 x2 x3 x4 x5 x6 x7 x8 x9 x10 x11, J x0 x1 x2 x3 x4 x5 x6 x7 x8 x9 x10 x11 → rest x0 x1 x2 x3 x4 x5 x6 x7 x8 x9 x10 x11) ∧ body J
structure Str where
  b : List UInt8
  deriving DecidableEq, Inhabited
/-- the element at a place -/
def At {α : Type} (xs : List α) (i : Int) (x : α) : Prop := 0 ≤ i ∧ xs[i.toNat]? = some x
theorem At.lt {α : Type} {xs : List α} {i : Int} {x : α} (h : At xs i x) : i < (xs.length : Int) := by
  have h1 := h.1
  have h2 := (List.getElem?_eq_some_iff.1 h.2).1
  omega
/-- an array -/
structure Arr (n : Nat) (α : Type) where
  l : List α
  deriving DecidableEq, Inhabited
theorem At.ltn {α : Type} {xs : List α} {i : Int} {x : α} {n : Nat} (h : At xs i x) (hn : xs.length = n) : i < (n : Int) := hn ▸ h.lt
theorem put_len {α : Type} {xs : List α} {i : Int} {y : α} {n : Nat} (h : xs.length = n) : (put xs i y).length = n := by rw [put, List.length_set, h]

end Go.Lx
