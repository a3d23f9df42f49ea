/- SX, fourth part: one operation at a time: what it yields. -/
import Derived.Test.YtohneemghiehdaaDoorSx3
set_option linter.unusedVariables false
set_option linter.unusedSimpArgs false
namespace Go.Sx
open Go

section
variable {P : Program} {w : World} {E : Env} {dst : Option Nat} {ty : TypeId} {pos : String} {after : Array Edge} {guard : Option (Nat × Bool)}

theorem R_move {x : Operand} {v : Value} (hx : ev E x = some v) : Runs P w E ⟨dst, .move x, ty, pos, after, guard⟩ v := fun a N ha => by
  simp [execOp, ha.eval hx]
theorem R_assign {x : Operand} {v : Value} (hx : ev E x = some v) : Runs P w E ⟨dst, .assign x, ty, pos, after, guard⟩ v := fun a N ha => by
  simp [execOp, ha.eval hx]
theorem R_pick_true {c x y : Operand} {v : Value} (hc : ev E c = some (.bool true)) (hx : ev E x = some v) : Runs P w E ⟨dst, .pick c x y, ty, pos, after, guard⟩ v := fun a N ha => by
  simp [execOp, ha.eval hc, ha.eval hx, asBool]
theorem R_pick_false {c x y : Operand} {v : Value} (hc : ev E c = some (.bool false)) (hy : ev E y = some v) : Runs P w E ⟨dst, .pick c x y, ty, pos, after, guard⟩ v := fun a N ha => by
  simp [execOp, ha.eval hc, ha.eval hy, asBool]
theorem R_nilCheck {x : Operand} {p : Addr} (hx : ev E x = some (.pointer (some p))) : Runs P w E ⟨dst, .nilCheck x, ty, pos, after, guard⟩ (.pointer (some p)) := fun a N ha => by
  simp [execOp, ha.eval hx]
theorem R_extract {x : Operand} {vs : Array Value} {i : Nat} {v : Value} (hx : ev E x = some (.tuple vs)) (hv : vs[i]? = some v) : Runs P w E ⟨dst, .extract x i, ty, pos, after, guard⟩ v := fun a N ha => by
  simp [execOp, ha.eval hx, Instr.extract, hv]

/-! ### numbers -/
section
variable {k : IntKind} {x y : Operand} {m n c : Int} {tx tu : TypeId}
theorem R_add (hx : ev E x = some (.int k m)) (hy : ev E y = some (.int k n)) (h : k.wrap (m + n) = c) : Runs P w E ⟨dst, .binOp .add tx x y tu, ty, pos, after, guard⟩ (.int k c) := fun a N ha => by
  subst h; simp [execOp, ha.eval hx, ha.eval hy, binOp, eqGuard, Op.intArith]
theorem R_sub (hx : ev E x = some (.int k m)) (hy : ev E y = some (.int k n)) (h : k.wrap (m - n) = c) : Runs P w E ⟨dst, .binOp .sub tx x y tu, ty, pos, after, guard⟩ (.int k c) := fun a N ha => by
  subst h; simp [execOp, ha.eval hx, ha.eval hy, binOp, eqGuard, Op.intArith]
theorem R_mul (hx : ev E x = some (.int k m)) (hy : ev E y = some (.int k n)) (h : k.wrap (m * n) = c) : Runs P w E ⟨dst, .binOp .mul tx x y tu, ty, pos, after, guard⟩ (.int k c) := fun a N ha => by
  subst h; simp [execOp, ha.eval hx, ha.eval hy, binOp, eqGuard, Op.intArith]
theorem R_quo (hx : ev E x = some (.int k m)) (hy : ev E y = some (.int k n)) (h0 : n ≠ 0) (h : k.wrap (m.tdiv n) = c) : Runs P w E ⟨dst, .binOp .quo tx x y tu, ty, pos, after, guard⟩ (.int k c) := fun a N ha => by
  subst h; simp [execOp, ha.eval hx, ha.eval hy, binOp, eqGuard, Op.intDiv, h0]
theorem R_rem (hx : ev E x = some (.int k m)) (hy : ev E y = some (.int k n)) (h0 : n ≠ 0) (h : m.tmod n = c) : Runs P w E ⟨dst, .binOp .rem tx x y tu, ty, pos, after, guard⟩ (.int k c) := fun a N ha => by
  subst h; simp [execOp, ha.eval hx, ha.eval hy, binOp, eqGuard, Op.intDiv, h0]
theorem R_and (hx : ev E x = some (.int k m)) (hy : ev E y = some (.int k n)) (h : k.wrap ((BitVec.ofInt k.bits m &&& BitVec.ofInt k.bits n).toNat : Int) = c) : Runs P w E ⟨dst, .binOp .and tx x y tu, ty, pos, after, guard⟩ (.int k c) := fun a N ha => by
  subst h; simp [execOp, ha.eval hx, ha.eval hy, binOp, eqGuard, Op.intBits]
theorem R_or (hx : ev E x = some (.int k m)) (hy : ev E y = some (.int k n)) (h : k.wrap ((BitVec.ofInt k.bits m ||| BitVec.ofInt k.bits n).toNat : Int) = c) : Runs P w E ⟨dst, .binOp .or tx x y tu, ty, pos, after, guard⟩ (.int k c) := fun a N ha => by
  subst h; simp [execOp, ha.eval hx, ha.eval hy, binOp, eqGuard, Op.intBits]
theorem R_xor (hx : ev E x = some (.int k m)) (hy : ev E y = some (.int k n)) (h : k.wrap ((BitVec.ofInt k.bits m ^^^ BitVec.ofInt k.bits n).toNat : Int) = c) : Runs P w E ⟨dst, .binOp .xor tx x y tu, ty, pos, after, guard⟩ (.int k c) := fun a N ha => by
  subst h; simp [execOp, ha.eval hx, ha.eval hy, binOp, eqGuard, Op.intBits]
theorem R_shl {k' : IntKind} (hx : ev E x = some (.int k m)) (hy : ev E y = some (.int k' n)) (h0 : ¬ n < 0) (h : k.wrap (m * 2 ^ (min n.toNat k.bits)) = c) : Runs P w E ⟨dst, .binOp .shl tx x y tu, ty, pos, after, guard⟩ (.int k c) := fun a N ha => by
  subst h; simp [execOp, ha.eval hx, ha.eval hy, binOp, eqGuard, Op.shift, h0]
theorem R_shr {k' : IntKind} (hx : ev E x = some (.int k m)) (hy : ev E y = some (.int k' n)) (h0 : ¬ n < 0) (h : m.fdiv (2 ^ (min n.toNat k.bits)) = c) : Runs P w E ⟨dst, .binOp .shr tx x y tu, ty, pos, after, guard⟩ (.int k c) := fun a N ha => by
  subst h; simp [execOp, ha.eval hx, ha.eval hy, binOp, eqGuard, Op.shift, h0]
theorem R_eql (hx : ev E x = some (.int k m)) (hy : ev E y = some (.int k n)) : Runs P w E ⟨dst, .binOp .eql tx x y tu, ty, pos, after, guard⟩ (.bool (decide (m = n))) := fun a N ha => by
  simp [execOp, ha.eval hx, ha.eval hy, binOp, eqGuard, Op.intCmp, BEq.beq]
theorem R_neq (hx : ev E x = some (.int k m)) (hy : ev E y = some (.int k n)) : Runs P w E ⟨dst, .binOp .neq tx x y tu, ty, pos, after, guard⟩ (.bool (decide (m ≠ n))) := fun a N ha => by
  simp [execOp, ha.eval hx, ha.eval hy, binOp, eqGuard, Op.intCmp, bne, BEq.beq]
theorem R_lss (hx : ev E x = some (.int k m)) (hy : ev E y = some (.int k n)) : Runs P w E ⟨dst, .binOp .lss tx x y tu, ty, pos, after, guard⟩ (.bool (decide (m < n))) := fun a N ha => by
  simp [execOp, ha.eval hx, ha.eval hy, binOp, eqGuard, Op.intCmp]
theorem R_leq (hx : ev E x = some (.int k m)) (hy : ev E y = some (.int k n)) : Runs P w E ⟨dst, .binOp .leq tx x y tu, ty, pos, after, guard⟩ (.bool (decide (m ≤ n))) := fun a N ha => by
  simp [execOp, ha.eval hx, ha.eval hy, binOp, eqGuard, Op.intCmp]
theorem R_gtr (hx : ev E x = some (.int k m)) (hy : ev E y = some (.int k n)) : Runs P w E ⟨dst, .binOp .gtr tx x y tu, ty, pos, after, guard⟩ (.bool (decide (m > n))) := fun a N ha => by
  simp [execOp, ha.eval hx, ha.eval hy, binOp, eqGuard, Op.intCmp]
theorem R_geq (hx : ev E x = some (.int k m)) (hy : ev E y = some (.int k n)) : Runs P w E ⟨dst, .binOp .geq tx x y tu, ty, pos, after, guard⟩ (.bool (decide (m ≥ n))) := fun a N ha => by
  simp [execOp, ha.eval hx, ha.eval hy, binOp, eqGuard, Op.intCmp]
theorem R_neg (hx : ev E x = some (.int k m)) (h : k.wrap (0 - m) = c) : Runs P w E ⟨dst, .unOp .neg tx x, ty, pos, after, guard⟩ (.int k c) := fun a N ha => by
  subst h; simp [execOp, ha.eval hx, Op.unary, Op.intArith]
theorem R_compl (hx : ev E x = some (.int k m)) (h : k.wrap ((BitVec.ofInt k.bits (if k.signed then -1 else k.max) ^^^ BitVec.ofInt k.bits m).toNat : Int) = c) : Runs P w E ⟨dst, .unOp .xor tx x, ty, pos, after, guard⟩ (.int k c) := fun a N ha => by
  subst h; simp [execOp, ha.eval hx, Op.unary, Op.intBits]
theorem R_not {b : Bool} (hx : ev E x = some (.bool b)) : Runs P w E ⟨dst, .unOp .not tx x, ty, pos, after, guard⟩ (.bool !b) := fun a N ha => by
  simp [execOp, ha.eval hx, Op.unary]
theorem R_not' {p : Prop} [Decidable p] (hx : ev E x = some (.bool (decide p))) : Runs P w E ⟨dst, .unOp .not tx x, ty, pos, after, guard⟩ (.bool (decide (¬ p))) := fun a N ha => by
  simp [execOp, ha.eval hx, Op.unary]
/-- from one kind of whole numbers to another -/
theorem R_conv {s t : TypeId} {kd : IntKind} {ds : TypeDesc} (hs : P.underlying s = some ds) (ht : P.underlying t = some (.int kd)) (hx : ev E x = some (.int k m)) (h : kd.wrap m = c) :
    Runs P w E ⟨dst, .convert s t x, ty, pos, after, guard⟩ (.int kd c) := fun a N ha => by
  subst h
  simp [execOp, ha.eval hx, convert, underlying, program, Sem.run, hs, ht, Conv.intToInt]
end
end
end Go.Sx
