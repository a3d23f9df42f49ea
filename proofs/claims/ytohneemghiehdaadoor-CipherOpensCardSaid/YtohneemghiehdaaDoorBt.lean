/- PLAIN: the reference's digest. -/
import Derived.Test.YtohneemghiehdaaDoorBr
set_option linter.unusedVariables false
set_option linter.unusedSimpArgs false
namespace Go.Sx
open Go
theorem cN_32 (n : Nat) : IntKind.u32.wrap (n : Int) = ((BitVec.ofNat 32 n).toNat : Int) := by
  rw [wU32, BitVec.toNat_ofNat]; omega
theorem first0_ref (k : Nat) : Bl.first.set 0 (((Bl.first.getD 0 0 ^^^ 16842752#32) ^^^ BitVec.ofNat 32 (256 * k)) ^^^ 32#32) = Bl.first0 k := by
  have e : BitVec.ofNat 32 (256 * k) = BitVec.ofNat 32 k <<< 8 := by
    apply BitVec.eq_of_toNat_eq
    rw [BitVec.toNat_shiftLeft, BitVec.toNat_ofNat, BitVec.toNat_ofNat, Nat.shiftLeft_eq]
    omega
  rw [e, Bl.first0]
  congr 1
  show ((0x6a09e667#32 ^^^ 16842752#32) ^^^ _) ^^^ 32#32 = 0x6a09e667#32 ^^^ _
  rw [BitVec.xor_assoc, BitVec.xor_assoc]
  congr 1
  rw [BitVec.xor_assoc]
/-- all bytes that are read -/
def allOf (key b : List UInt8) : List UInt8 := (Bl.begin_ key).rest ++ b
theorem add_begin (key b : List UInt8) : Bl.add (Bl.begin_ key) b = Bl.eat (allOf key b).length ⟨Bl.first0 key.length, allOf key b, 0⟩ := rfl
theorem Rd.cutB {w : World} {A : Option Addr} {bs : List UInt8} (h : Rd w A (bs.map vb)) (m l k : Nat) (hm : bs.length ≤ m) : Rd w (if m = l then A else A.map (·.add (l * 1))) (((bs.drop l).take k).map vb) := by
  have := (Rd.cut h (m = l) (l * 1) (fun e => by simp; omega)).take k
  rw [Nat.mul_one] at this ⊢
  simpa [List.map_take, List.map_drop] using this
theorem pad_step (p : List UInt8) (j : Nat) : p ++ List.replicate j 0 ++ [0] = p ++ List.replicate (j + 1) (0 : UInt8) := by
  rw [List.append_assoc, List.replicate_succ']
theorem pad_end {p : List UInt8} {j : Nat} (h : p.length + j = 64) : p ++ List.replicate j 0 = Bl.padded p := by
  rw [Bl.padded, show 64 - p.length = j by omega]
def byteK (x : BitVec 32) (k : Nat) : UInt8 := UInt8.ofBitVec ((x >>> (8 * k)).setWidth 8)
def outK (H : List (BitVec 32)) (i : Nat) : Nat → List UInt8
  | 0 => outL H i
  | k + 1 => (outK H i k).set (4 * i + k) (byteK (H.getD i 0) k)
theorem outK_len (H : List (BitVec 32)) {i : Nat} (h : i ≤ H.length) : ∀ k, (outK H i k).length = 4 * H.length
  | 0 => outL_len H h
  | k + 1 => by rw [outK, List.length_set, outK_len H h k]
theorem outK_four (H : List (BitVec 32)) {i : Nat} (h : i < H.length) : outK H i 4 = outL H (i + 1) := by
  rw [← outL_set H h]
  rfl
theorem shr_quo (x : BitVec 32) (k : Nat) : IntKind.u32.wrap ((((x >>> (8 * k)).toNat : Nat) : Int).tdiv 256) = ((x >>> (8 * (k + 1))).toNat : Int) := by
  have e : (((x >>> (8 * k)).toNat : Int)).tdiv 256 = (((x >>> (8 * k)).toNat / 256 : Nat) : Int) := rfl
  have e2 : (x >>> (8 * (k + 1))).toNat = (x >>> (8 * k)).toNat / 256 := by
    rw [BitVec.toNat_ushiftRight, BitVec.toNat_ushiftRight, Nat.shiftRight_eq_div_pow, Nat.shiftRight_eq_div_pow, Nat.div_div_eq_div_mul, Nat.mul_add, Nat.pow_add]
  rw [e, e2, wU32]
  have := (x >>> (8 * k)).isLt
  generalize (x >>> (8 * k)).toNat = q at *
  omega
theorem byte_rem (x : BitVec 32) (k : Nat) : IntKind.u8.wrap ((((x >>> (8 * k)).toNat % 256 : Nat)) : Int) = ((byteK x k).toNat : Int) := by
  rw [wU8, byteK]
  show _ = ((((x >>> (8 * k)).setWidth 8).toNat : Nat) : Int)
  rw [BitVec.toNat_setWidth]
  omega
theorem take_min {α : Type} (l : List α) (a : Nat) : l.take (min l.length a) = l.take a := by
  rcases Nat.le_total l.length a with h | h
  · rw [Nat.min_eq_left h, List.take_length, List.take_of_length_le h]
  · rw [Nat.min_eq_right h]
end Go.Sx
namespace Go.Sx
open Go
theorem OwnB.nilAt {M : List Nat} {w w' : World} (_ : Fr M w w') (B e : Nat) : OwnB w' B e none 0 [] := OwnB.nil ..
end Go.Sx
namespace Go.Sx
open Go
theorem OwnB.to {w : World} {B e c : Nat} {A : Option Addr} {xs ys : List UInt8} (h : OwnB w B e A c xs) (he : xs = ys) : OwnB w B e A c ys := he ▸ h
theorem allOf_len {key b : List UInt8} (h : key.length ≤ 32) (hb : b.length ≤ 1099511627776) : (allOf key b).length ≤ 1099511627776 + 64 := by
  rw [allOf, List.length_append, Bl.begin_]
  dsimp only
  split
  · simp; omega
  · rw [padded_len (by omega)]; omega
end Go.Sx
namespace Go.Sx
open Go
theorem quoc (a b : Nat) (h : a < 9223372036854775808) : IntKind.i64.wrap (((a : Int)).tdiv (b : Int)) = ((a / b : Nat) : Int) := by
  have e : ((a : Int)).tdiv (b : Int) = ((a / b : Nat) : Int) := rfl
  have := Nat.div_le_self a b
  rw [e]
  generalize a / b = q at *
  exact wI (by omega) (by omega)
end Go.Sx
namespace Go.Sx
open Go
section
variable {P : Program} {w : World} {E : Env} {dst : Option Nat} {ty : TypeId} {pos : String} {after : Array Edge} {guard : Option (Nat × Bool)} {x y s : Operand} {t t' : TypeId}
/-- append to an empty literal: nothing old is changed -/
theorem R_appendFresh {B b n2 e bytes c2 : Nat} {A2 : Option Addr} {tx : TypeId} {ys : List UInt8} (el : Elem P t e 1 bytes) (hk : P.underlying tx = some (.slice e)) (hs : ev E s = some (.slice (some ⟨b, 0, none⟩) 0 0)) (hx : ev E x = some (.slice A2 n2 c2)) (hn : n2 = ys.length) (hb : B ≤ b) (hB : Blk w b e []) (hR : Rd w A2 (ys.map vb))
    (hbytes : ys.length * bytes ≤ 140737488355328) (hbase : B ≤ w.heap.size) (hb1 : 1 ≤ bytes) :
    RunsTo P w E ⟨dst, .call { callee := .builtin .append, args := #[s, x], argTypes := #[t, tx] }, ty, pos, after, guard⟩ (fun u w' => ∃ A' c', u = .slice A' ys.length c' ∧ OwnB w' B e A' c' ys ∧ Fr [] w w') := by
  subst hn
  have h63 : 0 + ys.length ≤ maxLen := by
    have := Nat.mul_le_mul_left ys.length hb1
    simp only [maxLen]; omega
  have h := R_appendTight (dst := dst) (ty := ty) (pos := pos) (after := after) (guard := guard) (w := w) (B := B) el hs hx (xs := []) (Rd.nil _ _) (by simp) (Src.ofRd hk (by decide) hR (by simp) allb) (by rw [Nat.zero_add]; exact hbytes) h63 hbase
  intro a N hA
  obtain ⟨v, w', ⟨A', c', h1, _, h3, h4⟩, h5⟩ := h a N hA
  refine ⟨v, w', ⟨A', c', by rw [h1, Nat.zero_add], ?_, h3⟩, h5⟩
  rcases h4 with ⟨h0, rfl, rfl, rfl⟩ | ⟨_, hO⟩
  · have : ys = [] := List.eq_nil_of_length_eq_zero h0
    subst this
    exact OwnB.empty hb hB
  · unfold OwnB
    simpa using hO
end
end Go.Sx
namespace Go.Sx
theorem u8_of (k : Nat) : UInt8.ofBitVec (BitVec.ofInt 8 ((k : Nat) : Int)) = UInt8.ofNat k := by
  rw [BitVec.ofInt_natCast]; rfl
end Go.Sx
namespace Go.Sx
theorem eat_app : ∀ (n : Nat) (D : Bl.D) (b : List UInt8), D.rest.length = n → Bl.add (Bl.eat n D) b = Bl.add D b := by
  intro n
  induction n using Nat.strongRecOn with
  | _ n ih =>
    intro D b hn
    subst hn
    by_cases h : 64 < D.rest.length
    · rw [eat_step h, ih _ (by rw [List.length_drop]; omega) ⟨Bl.mix D.h (D.rest.take 64) (D.n + 64) false, D.rest.drop 64, D.n + 64⟩ b rfl]
      have h2 : Bl.add D b = Bl.eat (⟨D.h, D.rest ++ b, D.n⟩ : Bl.D).rest.length ⟨D.h, D.rest ++ b, D.n⟩ := rfl
      have h3 := eat_step (D := ⟨D.h, D.rest ++ b, D.n⟩) (by show 64 < (D.rest ++ b).length; rw [List.length_append]; omega)
      rw [h2, h3]
      have e1 : (D.rest ++ b).take 64 = D.rest.take 64 := List.take_append_of_le_length (by omega)
      have e2 : (D.rest ++ b).drop 64 = D.rest.drop 64 ++ b := List.drop_append_of_le_length (by omega)
      dsimp only
      rw [e1, e2]
      rfl
    · rw [eat_done (by omega)]
theorem add_app (D : Bl.D) (a b : List UInt8) : Bl.add D (a ++ b) = Bl.add (Bl.add D a) b := by
  have h : Bl.add D a = Bl.eat (⟨D.h, D.rest ++ a, D.n⟩ : Bl.D).rest.length ⟨D.h, D.rest ++ a, D.n⟩ := rfl
  rw [h, eat_app _ _ _ rfl]
  unfold Bl.add
  dsimp only
  rw [List.append_assoc]
theorem add_flat' : ∀ (L : List (List UInt8)) (D : Bl.D), D.rest.length ≤ 64 → L.foldl Bl.add D = Bl.add D L.flatten
  | [], D, h => by
    show D = Bl.add D []
    unfold Bl.add
    dsimp only
    rw [List.append_nil, eat_done h]
  | a :: L, D, h => by
    rw [List.foldl_cons, List.flatten_cons, add_app, add_flat' L (Bl.add D a) ?_]
    unfold Bl.add
    dsimp only
    exact eat_rest _ _ rfl
where
  eat_rest : ∀ (n : Nat) (D : Bl.D), D.rest.length = n → (Bl.eat n D).rest.length ≤ 64 := by
    intro n
    induction n using Nat.strongRecOn with
    | _ n ih =>
      intro D hn
      subst hn
      by_cases h : 64 < D.rest.length
      · rw [eat_step h]
        exact ih _ (by rw [List.length_drop]; omega) _ rfl
      · rw [eat_done (by omega)]; omega
theorem keyed_two (key a b : List UInt8) : Bl.keyed key [a, b] = Bl.keyed key [a ++ b] := by
  unfold Bl.keyed
  simp only [List.foldl_cons, List.foldl_nil, add_app]
theorem keyT_ref (root : List UInt8) (k : Nat) : Bl.keyT root (k + 1) = Bl.keyed root [Bl.keyT root k ++ [UInt8.ofBitVec (BitVec.ofInt 8 ((k + 1 : Nat) : Int))]] := by
  rw [Bl.keyT, keyed_two, u8_of]
end Go.Sx
