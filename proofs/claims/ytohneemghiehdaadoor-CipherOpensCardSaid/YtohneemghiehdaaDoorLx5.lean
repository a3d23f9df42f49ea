/- Rules for what the model has in place of assembly: the comparison of bytes. -/
import Derived.Test.YtohneemghiehdaaDoorLx3
import Derived.Lib.Bytealg
set_option linter.unusedVariables false
set_option linter.unusedSimpArgs false
namespace Go.Lx
open Go Go.Sx
theorem run_ldB {P : Program} {w : World} : ∀ (l : List UInt8) (a : Addr) (acc : ByteArray), (∀ (j : Nat) (h : j < l.length), w.cell? (a.add j) = some (vb l[j])) → (Extern.Bytes.loadBytes a l.length acc).run P w = .ok ⟨acc.data ++ l.toArray⟩ w
  | [], a, acc, _ => by simp [Extern.Bytes.loadBytes]
  | x :: l, a, acc, h => by
    have h0 : w.cell? a = some (vb x) := by
      have := h 0 (by simp)
      simpa [Addr.add] using this
    have ih := run_ldB (P := P) (w := w) l (a.add 1) (acc.push x) fun j hj => by
      have := h (j + 1) (by simpa using hj)
      have e : (a.add 1).add j = a.add (j + 1) := by
        unfold Addr.add
        by_cases hj : j = 0
        · subst hj; simp
        · simp [hj]; omega
      rw [e]; simpa using this
    have hx : ((x.toNat : Int).toNat).toUInt8 = x := by simp
    simp only [List.length_cons, Extern.Bytes.loadBytes, Sem.run_bind, run_load, h0, Result.andThen, vb, hx]
    rw [ih]
    congr 1
    apply ByteArray.ext
    simp [ByteArray.push]
theorem run_bsOf {P : Program} {w : World} {A : Option Addr} {bs : List UInt8} {c : Nat} (hR : Rd w A (bs.map vb)) : (Extern.Bytes.bytesOf (.slice A bs.length c)).run P w = .ok ⟨bs.toArray⟩ w := by
  cases A with
  | none =>
    have : bs = [] := by
      cases bs with
      | nil => rfl
      | cons b l => have := (hR 0 (vb b) rfl).1; cases this
    subst this
    rfl
  | some a0 =>
    have := run_ldB (P := P) (w := w) bs a0 .empty fun j hj => (hR j _ (by simp [List.getElem?_map, List.getElem?_eq_getElem hj])).2
    simp only [Extern.Bytes.bytesOf]
    rw [this]
    simp
theorem and8 (a b : UInt8) : IntKind.u8.wrap ((BitVec.ofInt IntKind.u8.bits (a.toNat : Int) &&& BitVec.ofInt IntKind.u8.bits (b.toNat : Int)).toNat : Int) = ((a &&& b).toNat : Int) := by
  show IntKind.u8.wrap ((BitVec.ofInt 8 (a.toNat : Int) &&& BitVec.ofInt 8 (b.toNat : Int)).toNat : Int) = _
  rw [bv8, bv8]
  exact lt8 _ (a &&& b).toBitVec.isLt
theorem shr8 (a : UInt8) (n : Nat) (hn : n ≤ 8) : (a.toNat : Int).fdiv (2 ^ (min (n : Int).toNat IntKind.u8.bits)) = ((UInt8.ofBitVec (a.toBitVec >>> n)).toNat : Int) := by
  have e : min (n : Int).toNat IntKind.u8.bits = n := by show min _ 8 = n; omega
  have e2 : (UInt8.ofBitVec (a.toBitVec >>> n)).toNat = (a.toBitVec >>> n).toNat := rfl
  rw [e, e2, BitVec.toNat_ushiftRight, Nat.shiftRight_eq_div_pow]
  rw [Int.fdiv_eq_ediv_of_nonneg _ (by exact Int.le_of_lt (Int.pow_pos (by decide)))]
  simp
theorem shl32I (a : BitVec 32) {v : Int} (h : 0 ≤ v) : IntKind.u32.wrap ((a.toNat : Int) * 2 ^ (min v.toNat IntKind.u32.bits)) = ((a <<< v.toNat).toNat : Int) := by
  rcases Nat.le_total v.toNat 32 with k | k
  · have := shl32 a v.toNat k
    rw [Int.toNat_natCast] at this; exact this
  · have := shl32 a 32 (Nat.le_refl _)
    rw [Int.toNat_natCast, BitVec.shiftLeft_eq_zero (Nat.le_refl _)] at this
    rw [show min v.toNat IntKind.u32.bits = min 32 IntKind.u32.bits by show min _ 32 = min 32 32; omega, this, BitVec.shiftLeft_eq_zero k]
theorem shr32I (a : BitVec 32) {v : Int} (h : 0 ≤ v) : (a.toNat : Int).fdiv (2 ^ (min v.toNat IntKind.u32.bits)) = ((a >>> v.toNat).toNat : Int) := by
  rcases Nat.le_total v.toNat 32 with k | k
  · have := shr32 a v.toNat k
    rw [Int.toNat_natCast] at this; exact this
  · have := shr32 a 32 (Nat.le_refl _)
    rw [Int.toNat_natCast, BitVec.ushiftRight_eq_zero (Nat.le_refl _)] at this
    rw [show min v.toNat IntKind.u32.bits = min 32 IntKind.u32.bits by show min _ 32 = min 32 32; omega, this, BitVec.ushiftRight_eq_zero k]
theorem all_enc {α : Type} [Sc α] (xs : List α) : ((xs.map Sc.enc).toArray).toList.all (·.oneCell') = true := by
  rw [List.all_eq_true]
  intro v hv
  rw [List.toList_toArray, List.mem_map] at hv
  obtain ⟨x, _, rfl⟩ := hv
  have h := Rp.one (Sc.sc.2 rfl : Rp.cs Gh.no x [Sc.enc x])
  simpa using h
theorem arr_over {α : Type} {enc : α → Value} {xs ys : List α} (h : xs.length = ys.length) : over (xs.map enc) 0 (ys.map enc).toArray.toList = ys.map enc := by
  rw [List.toList_toArray, over, List.take_zero, List.nil_append, List.drop_of_length_le (by simp [h]), List.append_nil]
theorem run_loadArr {P : Program} {w : World} {α : Type} {enc : α → Value} {xs : List α} {t t' : TypeId} {b n : Nat} (ht : aggB P t = some true) (hs : sz P t = some n) (hB : Blk w b t' (xs.map enc)) (hn : xs.length = n) :
    (loadVar t ⟨b, 0, none⟩).run P w = .ok (.agg (xs.map enc).toArray) w := by
  have h := run_loadVarN ht hs hB (o := 0) (by rw [List.length_map]; omega)
  rw [h]
  simp [List.take_of_length_le, hn]
section
variable {P : Program} {w : World} {E : Env} {dst : Option Nat} {ty : TypeId} {pos : String} {after : Array Edge} {guard : Option (Nat × Bool)} {x y : Operand}
theorem R_extCmp {f : FuncId} {fn : Func} {ats : Array TypeId} {A A' : Option Addr} {n n' c c' : Nat} {xs ys : List UInt8} (hf : P.funcs[f]? = some fn) (h1 : (fn.name == "runtime.NumGoroutine") = false) (h2 : fn.body.isNone = true) (h3 : Extern.findNext fn = none) (h4 : Extern.find fn = some Extern.BytealgCompare.compare)
    (hx : ev E x = some (.slice A n c)) (hn : n = xs.length) (hR : Rd w A (xs.map vb)) (hy : ev E y = some (.slice A' n' c')) (hn' : n' = ys.length) (hR' : Rd w A' (ys.map vb)) :
    Runs P w E ⟨dst, .call { callee := .value (.func f), args := #[x, y], argTypes := ats }, ty, pos, after, guard⟩ (vi (Lib.compareBytes xs ys)) := fun a N ha => by
  subst hn hn'
  have hr : (Extern.BytealgCompare.compare #[.slice A xs.length c, .slice A' ys.length c']).run P w = .ok (vi (Lib.compareBytes xs ys)) w := by
    change Sem.run P (do pure (goInt (Extern.BytealgCompare.cmp (← Extern.Bytes.bytesOf (.slice A xs.length c)) (← Extern.Bytes.bytesOf (.slice A' ys.length c'))))) w = _
    simp only [Sem.run_bind, Sem.run_pure, Result.andThen, run_bsOf hR, run_bsOf hR']
    rw [Lib.cmp_eq]
    rfl
  have hc := run_callFunc_extern hf h1 h2 h3 h4 #[.slice A xs.length c, .slice A' ys.length c'] w
  rw [hr] at hc
  have h5 : a.eval (.func f) = Value.func (.func f) #[] #[] := rfl
  simp [execOp, resolve, h5, Deferred.ofValue, invoke, ha.eval hx, ha.eval hy, hc, Result.andThen]
end
end Go.Lx
