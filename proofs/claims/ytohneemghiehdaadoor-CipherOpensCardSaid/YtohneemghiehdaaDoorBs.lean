/- PLAIN: what the walk of Sum needs. -/
import Derived.Test.YtohneemghiehdaaDoorBe
import Derived.Test.YtohneemghiehdaaDoorSx12
set_option linter.unusedVariables false
set_option linter.unusedSimpArgs false
namespace Go.Sx
open Go
theorem cN_64 (n : Nat) : IntKind.u64.wrap (n : Int) = ((BitVec.ofNat 64 n).toNat : Int) := by
  rw [cI_64]; simp
theorem add64N (a b : Nat) : IntKind.u64.wrap (((BitVec.ofNat 64 a).toNat : Int) + ((BitVec.ofNat 64 b).toNat : Int)) = ((BitVec.ofNat 64 (a + b)).toNat : Int) := by
  rw [add64, BitVec.ofNat_add]
theorem own_some {w : World} {B e size n c : Nat} {A : Option Addr} {xs : List Value} (h : Own w B e size A n c xs) (hn : 0 < n) : ∃ g, A = some ⟨g, 0, none⟩ ∧ B ≤ g := by
  rcases h.form with ⟨rfl, rfl, _, _⟩ | ⟨g, cur, rfl, hb, _⟩
  · omega
  · exact ⟨g, rfl, hb⟩
theorem getAgg {H : List (BitVec 32)} {n i : Nat} (hn : H.length = n) (h : i < n) : (((H.map w32).drop 0).take n).toArray[(i : Int).toNat]? = some (w32 (H.getD i 0)) := by
  subst hn
  simp [List.getElem?_take, List.getD_eq_getElem?_getD, h]
def b4 (x : BitVec 32) : List UInt8 := [UInt8.ofBitVec (x.setWidth 8), UInt8.ofBitVec ((x >>> 8).setWidth 8), UInt8.ofBitVec ((x >>> 16).setWidth 8), UInt8.ofBitVec ((x >>> 24).setWidth 8)]
theorem bytesOf_eq (h : List (BitVec 32)) : Bl.bytesOf h = h.flatMap b4 := rfl
/-- i words are written -/
def outL (H : List (BitVec 32)) (i : Nat) : List UInt8 := (H.take i).flatMap b4 ++ List.replicate (4 * (H.length - i)) 0
theorem flat4 : ∀ (H : List (BitVec 32)), (H.flatMap b4).length = 4 * H.length
  | [] => rfl
  | x :: H => by rw [List.flatMap_cons, List.length_append, flat4 H]; simp [b4]; omega
theorem outL_len (H : List (BitVec 32)) {i : Nat} (h : i ≤ H.length) : (outL H i).length = 4 * H.length := by
  rw [outL, List.length_append, flat4, List.length_replicate, List.length_take]; omega
theorem outL_all (H : List (BitVec 32)) : outL H H.length = Bl.bytesOf H := by simp [outL, bytesOf_eq]
theorem outL_set (H : List (BitVec 32)) {i : Nat} (h : i < H.length) : ((((outL H i).set (4 * i) (UInt8.ofBitVec ((H.getD i 0).setWidth 8))).set (4 * i + 1) (UInt8.ofBitVec ((H.getD i 0 >>> 8).setWidth 8))).set (4 * i + 2) (UInt8.ofBitVec ((H.getD i 0 >>> 16).setWidth 8))).set (4 * i + 3) (UInt8.ofBitVec ((H.getD i 0 >>> 24).setWidth 8)) = outL H (i + 1) := by
  have hg : H.getD i 0 = H[i] := by simp [List.getD_eq_getElem?_getD, h]
  rw [hg]
  unfold outL
  have hl : ((H.take i).flatMap b4).length = 4 * i := by rw [flat4, List.length_take]; omega
  obtain ⟨k, hk⟩ : ∃ k, H.length - i = k + 1 := ⟨H.length - i - 1, by omega⟩
  have hr : List.replicate (4 * (H.length - i)) (0 : UInt8) = 0 :: 0 :: 0 :: 0 :: List.replicate (4 * (H.length - (i + 1))) 0 := by
    rw [show 4 * (H.length - i) = 4 * (H.length - (i + 1)) + 1 + 1 + 1 + 1 by omega]
    simp [List.replicate_succ]
  have ht : (H.take (i + 1)).flatMap b4 = (H.take i).flatMap b4 ++ b4 H[i] := by
    rw [List.take_succ_eq_append_getElem h, List.flatMap_append]; simp
  rw [hr, ht]
  generalize (H.take i).flatMap b4 = L at hl
  subst_vars
  rw [List.set_append_right _ _ (by omega), List.set_append_right _ _ (by omega), List.set_append_right _ _ (by omega), List.set_append_right _ _ (by omega), ← hl]
  simp [b4]
theorem setb (v : List UInt8) (a : Nat) (x : UInt8) : (v.map vb).set (0 + (a : Int).toNat * 1) (vb x) = (v.set a x).map vb := by
  simp [List.map_set]
theorem getb {v : List UInt8} {a : Nat} (h : a < v.length) : (v.map vb)[0 + (a : Int).toNat * 1]? = some (vb (v.getD a 0)) := by
  simp [List.getD_eq_getElem?_getD, h]
theorem rep_vb (n : Nat) : List.replicate n (.int .u8 0 : Value) = (List.replicate n (0 : UInt8)).map vb := by
  rw [List.map_replicate]; rfl
theorem sum_len (D : Bl.D) : (Bl.sum D).length = 32 := by
  rw [Bl.sum, bytesOf_eq, flat4, mix_len]
theorem fst_cells {h : List (BitVec 32)} (hh : h.length = 8) (zs : List Value) (hz : zs.length = 8) (A : Option Addr) (n c m : Nat) : over zs 0 ((((digC h A n c m).drop 0).take 8).toArray).toList = h.map w32 ++ [] := by
  have e1 : ((digC h A n c m).drop 0).take 8 = h.map w32 := by
    rw [List.drop_zero, digC, List.take_append_of_le_length (by simp [hh])]
    exact List.take_of_length_le (by simp [hh])
  rw [e1]
  simp [over, hh, hz]

/-- what Equal gathers -/
def eqAcc (xs ys : List UInt8) : Nat → UInt8
  | 0 => 0
  | i + 1 => eqAcc xs ys i ||| (xs.getD i 0 ^^^ ys.getD i 0)
theorem or8_zero (a b : UInt8) : a ||| b = 0 ↔ a = 0 ∧ b = 0 := by
  constructor
  · intro h
    have h' : a.toBitVec ||| b.toBitVec = 0 := by rw [← UInt8.toBitVec_or, h]; rfl
    have := BitVec.or_eq_zero_iff.1 h'
    exact ⟨UInt8.eq_of_toBitVec_eq this.1, UInt8.eq_of_toBitVec_eq this.2⟩
  · rintro ⟨rfl, rfl⟩; rfl
theorem xor8_zero (a b : UInt8) : a ^^^ b = 0 ↔ a = b := by
  constructor
  · intro h
    have h' : a.toBitVec ^^^ b.toBitVec = 0 := by rw [← UInt8.toBitVec_xor, h]; rfl
    exact UInt8.eq_of_toBitVec_eq (BitVec.xor_eq_zero_iff.1 h')
  · rintro rfl; exact UInt8.eq_of_toBitVec_eq (by simp)
theorem eqAcc_zero (xs ys : List UInt8) : ∀ i, eqAcc xs ys i = 0 ↔ ∀ j, j < i → xs.getD j 0 = ys.getD j 0
  | 0 => by simp [eqAcc]
  | i + 1 => by
    rw [eqAcc, or8_zero, xor8_zero, eqAcc_zero xs ys i]
    constructor
    · rintro ⟨h1, h2⟩ j hj
      rcases Nat.lt_or_ge j i with h | h
      · exact h1 j h
      · rw [show j = i by omega]; exact h2
    · intro h
      exact ⟨fun j hj => h j (by omega), h i (by omega)⟩
theorem eqAcc_dec (xs ys : List UInt8) (hl : xs.length = ys.length) : decide (xs = ys) = decide (((eqAcc xs ys xs.length).toNat : Int) = 0) := by
  have h : xs = ys ↔ eqAcc xs ys xs.length = 0 := by
    rw [eqAcc_zero]
    constructor
    · rintro rfl j _; rfl
    · intro h
      apply List.ext_getElem hl
      intro j h1 h2
      have := h j h1
      simpa [List.getD_eq_getElem?_getD, h1, h2] using this
  have h2 : eqAcc xs ys xs.length = 0 ↔ ((eqAcc xs ys xs.length).toNat : Int) = 0 := by
    rw [← UInt8.toNat_inj]
    show (eqAcc xs ys xs.length).toNat = 0 ↔ _
    omega
  exact decide_eq_decide.2 (h.trans h2)
def abcS : List UInt8 := [80, 140, 94, 140, 50, 124, 20, 226, 225, 167, 43, 163, 78, 235, 69, 47, 55, 69, 139, 32, 158, 214, 58, 41, 77, 153, 155, 76, 134, 103, 89, 130]
theorem abc_sum : Bl.of [[97, 98, 99]] = abcS := by decide +kernel

def _root_.Bl.keyed (key : List UInt8) (L : List (List UInt8)) : List UInt8 :=
  if key.length < 1 ∨ 32 < key.length then Bl.sum (L.foldl Bl.add (Bl.begin_ (Bl.of [key]))) else Bl.sum (L.foldl Bl.add (Bl.begin_ key))
theorem keyed_out {key : List UInt8} {L : List (List UInt8)} (h : key.length < 1 ∨ 32 < key.length) : Bl.keyed key L = Bl.sum (L.foldl Bl.add (Bl.begin_ (Bl.of [key]))) := if_pos h
theorem keyed_in {key : List UInt8} {L : List (List UInt8)} (h : ¬ (key.length < 1 ∨ 32 < key.length)) : Bl.keyed key L = Bl.sum (L.foldl Bl.add (Bl.begin_ key)) := if_neg h
theorem keyed_len (key : List UInt8) (L : List (List UInt8)) : (Bl.keyed key L).length = 32 := by
  unfold Bl.keyed; split <;> exact sum_len _
theorem of_len (L : List (List UInt8)) : (Bl.of L).length = 32 := sum_len _
theorem pre_take (xs ys : List UInt8) : decide (ys <+: xs) = decide (xs.take ys.length = ys) := by
  apply decide_eq_decide.2
  rw [List.prefix_iff_eq_take]
  exact eq_comm

/-- the pieces of a key that is made of another -/
def _root_.Bl.keyT (root : List UInt8) : Nat → List UInt8
  | 0 => []
  | k + 1 => Bl.keyed root [Bl.keyT root k, [UInt8.ofNat (k + 1)]]
/-- and all of them -/
def _root_.Bl.keyO (root : List UInt8) : Nat → List UInt8
  | 0 => []
  | k + 1 => Bl.keyO root k ++ Bl.keyT root (k + 1)
theorem keyT_le {root : List UInt8} {k : Nat} : (Bl.keyT root k).length = if k = 0 then 0 else 32 := by
  cases k with
  | zero => rfl
  | succ k => rw [if_neg (by omega), Bl.keyT]; exact keyed_len _ _
theorem keyO_succ {root : List UInt8} {k : Nat} : Bl.keyO root (k + 1) = Bl.keyO root k ++ Bl.keyT root (k + 1) := rfl
theorem keyO_len {root : List UInt8} : ∀ {k : Nat}, (Bl.keyO root k).length = 32 * k
  | 0 => rfl
  | k + 1 => by rw [keyO_succ, List.length_append, keyO_len, keyT_le, if_neg (by omega)]; omega
theorem keyO_pre {root : List UInt8} : ∀ {k m : Nat}, k ≤ m → Bl.keyO root k <+: Bl.keyO root m
  | k, 0, h => by
    have : k = 0 := by omega
    subst this; exact List.prefix_refl _
  | k, m + 1, h => by
    rcases Nat.lt_or_ge k (m + 1) with h1 | h1
    · exact (keyO_pre (show k ≤ m by omega)).trans (List.prefix_append _ _)
    · have : k = m + 1 := by omega
      subst this; exact List.prefix_refl _
theorem take_pre {l l' : List UInt8} {n : Nat} (h : l <+: l') (hn : n ≤ l.length) : l'.take n = l.take n := by
  obtain ⟨t, rfl⟩ := h
  exact List.take_append_of_le_length hn
theorem keyO_take {root : List UInt8} {k m : Nat} (hk : k ≤ 255) (hm : m ≤ 32 * k) : (Bl.keyO root 255).take m = (Bl.keyO root k).take m :=
  take_pre (keyO_pre hk) (by rw [keyO_len]; exact hm)
theorem ofNat_succ (k : Nat) : vb (UInt8.ofNat (k + 1 + 1)) = vb (UInt8.ofNat (k + 1) + 1) := by
  have : UInt8.ofNat (k + 1 + 1) = UInt8.ofNat (k + 1) + 1 := by
    apply UInt8.toNat_inj.1
    rw [UInt8.toNat_ofNat', UInt8.toNat_add, UInt8.toNat_ofNat']
    show _ = ((k + 1) % 2 ^ 8 + 1) % 2 ^ 8
    omega
  rw [this]
end Go.Sx
namespace Go.Sx
theorem take_take_pre {l : List UInt8} {n m : Nat} (h : n ≤ m) : l.take n <+: l.take m := by
  have : l.take n = (l.take m).take n := by rw [List.take_take, Nat.min_eq_left h]
  rw [this]
  exact List.take_prefix _ _
end Go.Sx
