/- PLAIN: the stream. -/
import Derived.Test.YtohneemghiehdaaDoorK2a
set_option linter.unusedVariables false
set_option linter.unusedSimpArgs false
namespace Go.Lx
def rl (x : BitVec 32) (k : Nat) : BitVec 32 := (x <<< k) ||| (x >>> (32 - k))
theorem rot_16 {x : BitVec 32} {Q : BitVec 32 → Prop} (hQ : Q (rl x 16)) : bits_RotateLeft32 x 16 Q := hQ
theorem rot_12 {x : BitVec 32} {Q : BitVec 32 → Prop} (hQ : Q (rl x 12)) : bits_RotateLeft32 x 12 Q := hQ
theorem rot_8 {x : BitVec 32} {Q : BitVec 32 → Prop} (hQ : Q (rl x 8)) : bits_RotateLeft32 x 8 Q := hQ
theorem rot_7 {x : BitVec 32} {Q : BitVec 32 → Prop} (hQ : Q (rl x 7)) : bits_RotateLeft32 x 7 Q := hQ
def qrF (w : List (BitVec 32)) (a b c d : Nat) : List (BitVec 32) :=
  let w := w.set a (w.getD a 0 + w.getD b 0)
  let w := w.set d (rl (w.getD d 0 ^^^ w.getD a 0) 16)
  let w := w.set c (w.getD c 0 + w.getD d 0)
  let w := w.set b (rl (w.getD b 0 ^^^ w.getD c 0) 12)
  let w := w.set a (w.getD a 0 + w.getD b 0)
  let w := w.set d (rl (w.getD d 0 ^^^ w.getD a 0) 8)
  let w := w.set c (w.getD c 0 + w.getD d 0)
  w.set b (rl (w.getD b 0 ^^^ w.getD c 0) 7)
theorem qrF_len (w : List (BitVec 32)) (a b c d : Nat) : (qrF w a b c d).length = w.length := by simp [qrF]
theorem atD {α : Type} {l : List α} {z : α} {k : Nat} (h : k < l.length) : At l (k : Int) (l.getD k z) := by
  have := At.get h
  rwa [List.getD_eq_getElem?_getD, List.getElem?_eq_getElem h, Option.getD_some]
theorem quarter_of {x : Arr 16 (BitVec 32)} {a b c d : Nat} {Q : Arr 16 (BitVec 32) → Prop} (hx : x.l.length = 16) (ha : a < 16) (hb : b < 16) (hc : c < 16) (hd : d < 16) (hQ : Q ⟨qrF x.l a b c d⟩) : cipher_words_quarter x a b c d Q := by
  unfold cipher_words_quarter
  simp only [put_nat]
  have L : ∀ {l : List (BitVec 32)} {k : Nat}, k < 16 → l.length = 16 → At l (k : Int) (l.getD k 0) := fun hk hl => atD (by omega)
  repeat (first | refine ⟨_, L ha (by simp only [List.length_set, hx]), ?_⟩ | refine ⟨_, L hb (by simp only [List.length_set, hx]), ?_⟩ | refine ⟨_, L hc (by simp only [List.length_set, hx]), ?_⟩ | refine ⟨_, L hd (by simp only [List.length_set, hx]), ?_⟩ | refine rot_16 ?_ | refine rot_12 ?_ | refine rot_8 ?_ | refine rot_7 ?_)
  exact hQ
def colF (w : List (BitVec 32)) (i : Nat) : List (BitVec 32) := qrF w i (4 + i) (8 + i) (12 + i)
def diaF (w : List (BitVec 32)) (i : Nat) : List (BitVec 32) := qrF w i (4 + (i + 1) % 4) (8 + (i + 2) % 4) (12 + (i + 3) % 4)
def doubF (w : List (BitVec 32)) : List (BitVec 32) := (List.range 4).foldl diaF ((List.range 4).foldl colF w)
theorem fold_len {β : Type} {f : List (BitVec 32) → β → List (BitVec 32)} (hf : ∀ w i, (f w i).length = w.length) : ∀ (l : List β) (w : List (BitVec 32)), (l.foldl f w).length = w.length
  | [], _ => rfl
  | i :: l, w => by rw [List.foldl_cons, fold_len hf l, hf]
theorem colF_len (w : List (BitVec 32)) (i : Nat) : (colF w i).length = w.length := qrF_len ..
theorem diaF_len (w : List (BitVec 32)) (i : Nat) : (diaF w i).length = w.length := qrF_len ..
theorem doubF_len (w : List (BitVec 32)) : (doubF w).length = w.length := by rw [doubF, fold_len diaF_len, fold_len colF_len]
theorem double_of {x : Arr 16 (BitVec 32)} {Q : Arr 16 (BitVec 32) → Prop} (hx : x.l.length = 16) (hQ : Q ⟨doubF x.l⟩) : cipher_words_double x Q := by
  unfold cipher_words_double
  refine ⟨fun y => y.l = (List.range 4).foldl colF x.l, ?_, ?_⟩
  · intro y hy
    refine lp2_inv 4 (fun k i z => i = (k : Int) ∧ z.l = (List.range k).foldl diaF y.l) ⟨rfl, rfl⟩ ?_ ?_
    · rintro k hk i z ⟨rfl, hz⟩ next hnext
      have hl : z.l.length = 16 := by rw [hz, fold_len diaF_len, hy, fold_len colF_len, hx]
      refine ⟨fun _ => ⟨by unfold Ck; omega, ?_, by unfold Ck; omega, ?_, by unfold Ck; omega, ?_, ?_⟩, fun h => absurd (by omega) h⟩
      · have : ((k : Int) + 1).tmod 4 = ((k + 1) % 4 : Nat) := by rw [show (k : Int) + 1 = ((k + 1 : Nat) : Int) by omega, show (4 : Int) = ((4 : Nat) : Int) from rfl, ← Int.ofNat_tmod]
        rw [this]; unfold Ck; omega
      · have : ((k : Int) + 2).tmod 4 = ((k + 2) % 4 : Nat) := by rw [show (k : Int) + 2 = ((k + 2 : Nat) : Int) by omega, show (4 : Int) = ((4 : Nat) : Int) from rfl, ← Int.ofNat_tmod]
        rw [this]; unfold Ck; omega
      · have : ((k : Int) + 3).tmod 4 = ((k + 3) % 4 : Nat) := by rw [show (k : Int) + 3 = ((k + 3 : Nat) : Int) by omega, show (4 : Int) = ((4 : Nat) : Int) from rfl, ← Int.ofNat_tmod]
        rw [this]; unfold Ck; omega
      · have t1 : 4 + ((k : Int) + 1).tmod 4 = ((4 + (k + 1) % 4 : Nat) : Int) := by rw [show (k : Int) + 1 = ((k + 1 : Nat) : Int) by omega, show (4 : Int) = ((4 : Nat) : Int) from rfl, ← Int.ofNat_tmod]; omega
        have t2 : 8 + ((k : Int) + 2).tmod 4 = ((8 + (k + 2) % 4 : Nat) : Int) := by rw [show (k : Int) + 2 = ((k + 2 : Nat) : Int) by omega, show (4 : Int) = ((4 : Nat) : Int) from rfl, ← Int.ofNat_tmod]; omega
        have t3 : 12 + ((k : Int) + 3).tmod 4 = ((12 + (k + 3) % 4 : Nat) : Int) := by rw [show (k : Int) + 3 = ((k + 3 : Nat) : Int) by omega, show (4 : Int) = ((4 : Nat) : Int) from rfl, ← Int.ofNat_tmod]; omega
        rw [t1, t2, t3]
        refine quarter_of hl (by omega) (by omega) (by omega) (by omega) ⟨by unfold Ck; omega, hnext _ _ ⟨by omega, ?_⟩⟩
        rw [List.range_succ, List.foldl_append, ← hz]; rfl
    · rintro i z ⟨rfl, hz⟩ next
      refine ⟨fun h => absurd h (by omega), fun _ => ?_⟩
      have : z = ⟨doubF x.l⟩ := by cases z; simp only at hz; rw [hz, hy]; rfl
      rw [this]; exact hQ
  · refine lp2_inv 4 (fun k i z => i = (k : Int) ∧ z.l = (List.range k).foldl colF x.l) ⟨rfl, rfl⟩ ?_ ?_
    · rintro k hk i z ⟨rfl, hz⟩ next hnext
      have hl : z.l.length = 16 := by rw [hz, fold_len colF_len, hx]
      refine ⟨fun _ => ⟨by unfold Ck; omega, by unfold Ck; omega, by unfold Ck; omega, ?_⟩, fun h => absurd (by omega) h⟩
      rw [show 4 + (k : Int) = ((4 + k : Nat) : Int) by omega, show 8 + (k : Int) = ((8 + k : Nat) : Int) by omega, show 12 + (k : Int) = ((12 + k : Nat) : Int) by omega]
      refine quarter_of hl (by omega) (by omega) (by omega) (by omega) ⟨by unfold Ck; omega, hnext _ _ ⟨by omega, ?_⟩⟩
      rw [List.range_succ, List.foldl_append, ← hz]; rfl
    · rintro i z ⟨rfl, hz⟩ next
      exact ⟨fun h => absurd h (by omega), fun _ => hz⟩
end Go.Lx
