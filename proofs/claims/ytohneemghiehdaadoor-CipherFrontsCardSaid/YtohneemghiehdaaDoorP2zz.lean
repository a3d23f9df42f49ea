/- PLAIN: what is put, read, summed: the plain laws in one text. -/
import Derived.Test.YtohneemghiehdaaDoorPl
import Derived.Test.YtohneemghiehdaaDoorCtAp
import Derived.Test.YtohneemghiehdaaDoorCtBp
import Derived.Test.YtohneemghiehdaaDoorCtFp
set_option linter.unusedVariables false
set_option linter.unusedSimpArgs false
/- PLAIN: numbers as eight bytes; what is put. -/
namespace Go.Lx
def dig (n k : Nat) : UInt8 := UInt8.ofNat (n / 256 ^ k)
def be8 (n : Nat) : List UInt8 := [dig n 7, dig n 6, dig n 5, dig n 4, dig n 3, dig n 2, dig n 1, dig n 0]
def putAll (l : List Int) : List UInt8 := l.flatMap fun n => be8 n.toNat
theorem putAll_snoc (l : List Int) (n : Int) : putAll (l ++ [n]) = putAll l ++ be8 n.toNat := by simp [putAll]
theorem putAll_len (l : List Int) : (putAll l).length = 8 * l.length := by
  induction l with
  | nil => rfl
  | cons n l ih => rw [putAll, List.flatMap_cons, List.length_append, show (l.flatMap _).length = _ from ih, List.length_cons]; simp [be8]; omega
theorem be8_at {n j : Nat} (h : j < 8) : (be8 n)[j]? = some (dig n (7 - j)) := by
  have : j = 0 ∨ j = 1 ∨ j = 2 ∨ j = 3 ∨ j = 4 ∨ j = 5 ∨ j = 6 ∨ j = 7 := by omega
  rcases this with rfl | rfl | rfl | rfl | rfl | rfl | rfl | rfl <;> rfl
theorem be8_take {n j : Nat} (h : j < 8) : (be8 n).take (j + 1) = (be8 n).take j ++ [dig n (7 - j)] := by
  have h1 : j < (be8 n).length := h
  rw [take_succ' h1]
  have := be8_at (n := n) h
  rw [List.getElem?_eq_getElem h1] at this
  rw [Option.some.inj this]
theorem dig_shr (x : Int) (k : Nat) (hk : k < 8) : UInt8.ofBitVec (BitVec.ofInt 8 (shrI (max x 0) (8 * (k : Int)))) = dig x.toNat k := by
  have e1 : max x 0 = (x.toNat : Int) := by omega
  have e2 : (8 * (k : Int)).toNat = 8 * k := by omega
  have e3 : (2 : Int) ^ (8 * k) = ((256 ^ k : Nat) : Int) := by rw [show (256 : Nat) = 2 ^ 8 from rfl, ← Nat.pow_mul]; simp
  rw [e1, shrI, e2, Nat.min_eq_left (by omega : 8 * k ≤ 64), e3, Int.fdiv_eq_ediv_of_nonneg _ (Int.natCast_nonneg _), ← Int.natCast_ediv, dig]
  rw [BitVec.ofInt_natCast]
  rfl
theorem octet_Put_of {b : List UInt8} {l : List Int} {Q : List UInt8 → Prop} (hb : b.length + 8 * l.length ≤ 1000000000000) (hQ : Q (b ++ putAll l)) : octet_Put b l Q := by
  unfold octet_Put
  refine ⟨by unfold Ck; omega, by unfold Ck; omega, by omega, by unfold Rm; omega, by unfold Rm; simp; omega, fun x => x = b ++ putAll l, fun x hx => hx ▸ hQ, ?_⟩
  refine lp2_inv l.length (fun k acc i => i = (k : Int) ∧ acc = b ++ putAll (l.take k)) ⟨rfl, by simp [putAll]⟩ ?_ ?_
  · rintro k hk acc i ⟨rfl, rfl⟩ next hnext
    refine ⟨fun _ => ?_, fun h => absurd (by omega) h⟩
    have ht : putAll (l.take (k + 1)) = putAll (l.take k) ++ be8 (l[k]).toNat := by rw [take_succ' hk, putAll_snoc]
    have hlen : (putAll (l.take k)).length = 8 * k := by rw [putAll_len, List.length_take]; omega
    refine ⟨fun x => x = b ++ putAll (l.take (k + 1)), fun x hx => ⟨by unfold Ck; omega, hnext _ _ ⟨by omega, hx⟩⟩, l[k], At.get hk, ?_⟩
    refine lp2_inv 8 (fun j acc i => i = 7 - (j : Int) ∧ acc = b ++ putAll (l.take k) ++ (be8 (l[k]).toNat).take j) ⟨rfl, by simp⟩ ?_ ?_
    · rintro j hj acc i ⟨rfl, rfl⟩ next2 hnext2
      have e : (7 - (j : Int)) = ((7 - j : Nat) : Int) := by omega
      refine ⟨fun _ => ⟨by unfold Ck; omega, by omega, ?_, by unfold Ck; omega, hnext2 _ _ ⟨by omega, ?_⟩⟩, fun h => absurd (by omega) h⟩
      · unfold Rm; simp only [List.length_append, List.length_take, hlen, List.length_cons, List.length_nil]; omega
      · rw [e, dig_shr _ _ (by omega), be8_take hj, List.append_assoc]
    · rintro acc i ⟨rfl, rfl⟩ next2
      refine ⟨fun h => absurd h (by omega), fun _ => ?_⟩
      rw [ht, ← List.append_assoc]; rfl
  · rintro acc i ⟨rfl, rfl⟩ next
    refine ⟨fun h => absurd h (by omega), fun _ => ?_⟩
    rw [List.take_length]
end Go.Lx

/- PLAIN: the stream. -/
namespace Go.Lx
def rl (x : BitVec 32) (k : Nat) : BitVec 32 := (x <<< k) ||| (x >>> (32 - k))
theorem rot_16 {x : BitVec 32} {Q : BitVec 32 → Prop} (hQ : Q (rl x 16)) : bits_RotateLeft32 x 16 Q := hQ
theorem rot_12 {x : BitVec 32} {Q : BitVec 32 → Prop} (hQ : Q (rl x 12)) : bits_RotateLeft32 x 12 Q := hQ
theorem rot_8 {x : BitVec 32} {Q : BitVec 32 → Prop} (hQ : Q (rl x 8)) : bits_RotateLeft32 x 8 Q := hQ
theorem rot_7 {x : BitVec 32} {Q : BitVec 32 → Prop} (hQ : Q (rl x 7)) : bits_RotateLeft32 x 7 Q := hQ
def qrF (w : List (BitVec 32)) (a b c d : Nat) : List (BitVec 32) :=
  let w := w.set a (w.getD a 0 + w.getD b 0)
  let w := w.set d (rl (w.getD d 0 ^^^ w.getD a 0) 16)
  let w := w.set c (w.getD c 0 + w.getD d 0)
  let w := w.set b (rl (w.getD b 0 ^^^ w.getD c 0) 12)
  let w := w.set a (w.getD a 0 + w.getD b 0)
  let w := w.set d (rl (w.getD d 0 ^^^ w.getD a 0) 8)
  let w := w.set c (w.getD c 0 + w.getD d 0)
  w.set b (rl (w.getD b 0 ^^^ w.getD c 0) 7)
theorem qrF_len (w : List (BitVec 32)) (a b c d : Nat) : (qrF w a b c d).length = w.length := by simp [qrF]
theorem atD {α : Type} {l : List α} {z : α} {k : Nat} (h : k < l.length) : At l (k : Int) (l.getD k z) := by
  have := At.get h
  rwa [List.getD_eq_getElem?_getD, List.getElem?_eq_getElem h, Option.getD_some]
theorem quarter_of {x : Arr 16 (BitVec 32)} {a b c d : Nat} {Q : Arr 16 (BitVec 32) → Prop} (hx : x.l.length = 16) (ha : a < 16) (hb : b < 16) (hc : c < 16) (hd : d < 16) (hQ : Q ⟨qrF x.l a b c d⟩) : cipher_words_quarter x a b c d Q := by
  unfold cipher_words_quarter
  simp only [put_nat]
  have L : ∀ {l : List (BitVec 32)} {k : Nat}, k < 16 → l.length = 16 → At l (k : Int) (l.getD k 0) := fun hk hl => atD (by omega)
  repeat (first | refine ⟨_, L ha (by simp only [List.length_set, hx]), ?_⟩ | refine ⟨_, L hb (by simp only [List.length_set, hx]), ?_⟩ | refine ⟨_, L hc (by simp only [List.length_set, hx]), ?_⟩ | refine ⟨_, L hd (by simp only [List.length_set, hx]), ?_⟩ | refine rot_16 ?_ | refine rot_12 ?_ | refine rot_8 ?_ | refine rot_7 ?_)
  exact hQ
def colF (w : List (BitVec 32)) (i : Nat) : List (BitVec 32) := qrF w i (4 + i) (8 + i) (12 + i)
def diaF (w : List (BitVec 32)) (i : Nat) : List (BitVec 32) := qrF w i (4 + (i + 1) % 4) (8 + (i + 2) % 4) (12 + (i + 3) % 4)
def doubF (w : List (BitVec 32)) : List (BitVec 32) := (List.range 4).foldl diaF ((List.range 4).foldl colF w)
theorem fold_len {β : Type} {f : List (BitVec 32) → β → List (BitVec 32)} (hf : ∀ w i, (f w i).length = w.length) : ∀ (l : List β) (w : List (BitVec 32)), (l.foldl f w).length = w.length
  | [], _ => rfl
  | i :: l, w => by rw [List.foldl_cons, fold_len hf l, hf]
theorem colF_len (w : List (BitVec 32)) (i : Nat) : (colF w i).length = w.length := qrF_len ..
theorem diaF_len (w : List (BitVec 32)) (i : Nat) : (diaF w i).length = w.length := qrF_len ..
theorem doubF_len (w : List (BitVec 32)) : (doubF w).length = w.length := by rw [doubF, fold_len diaF_len, fold_len colF_len]
theorem double_of {x : Arr 16 (BitVec 32)} {Q : Arr 16 (BitVec 32) → Prop} (hx : x.l.length = 16) (hQ : Q ⟨doubF x.l⟩) : cipher_words_double x Q := by
  unfold cipher_words_double
  refine ⟨fun y => y.l = (List.range 4).foldl colF x.l, ?_, ?_⟩
  · intro y hy
    refine lp2_inv 4 (fun k i z => i = (k : Int) ∧ z.l = (List.range k).foldl diaF y.l) ⟨rfl, rfl⟩ ?_ ?_
    · rintro k hk i z ⟨rfl, hz⟩ next hnext
      have hl : z.l.length = 16 := by rw [hz, fold_len diaF_len, hy, fold_len colF_len, hx]
      refine ⟨fun _ => ⟨by unfold Ck; omega, ?_, by unfold Ck; omega, ?_, by unfold Ck; omega, ?_, ?_⟩, fun h => absurd (by omega) h⟩
      · have : ((k : Int) + 1).tmod 4 = ((k + 1) % 4 : Nat) := by rw [show (k : Int) + 1 = ((k + 1 : Nat) : Int) by omega, show (4 : Int) = ((4 : Nat) : Int) from rfl, ← Int.ofNat_tmod]
        rw [this]; unfold Ck; omega
      · have : ((k : Int) + 2).tmod 4 = ((k + 2) % 4 : Nat) := by rw [show (k : Int) + 2 = ((k + 2 : Nat) : Int) by omega, show (4 : Int) = ((4 : Nat) : Int) from rfl, ← Int.ofNat_tmod]
        rw [this]; unfold Ck; omega
      · have : ((k : Int) + 3).tmod 4 = ((k + 3) % 4 : Nat) := by rw [show (k : Int) + 3 = ((k + 3 : Nat) : Int) by omega, show (4 : Int) = ((4 : Nat) : Int) from rfl, ← Int.ofNat_tmod]
        rw [this]; unfold Ck; omega
      · have t1 : 4 + ((k : Int) + 1).tmod 4 = ((4 + (k + 1) % 4 : Nat) : Int) := by rw [show (k : Int) + 1 = ((k + 1 : Nat) : Int) by omega, show (4 : Int) = ((4 : Nat) : Int) from rfl, ← Int.ofNat_tmod]; omega
        have t2 : 8 + ((k : Int) + 2).tmod 4 = ((8 + (k + 2) % 4 : Nat) : Int) := by rw [show (k : Int) + 2 = ((k + 2 : Nat) : Int) by omega, show (4 : Int) = ((4 : Nat) : Int) from rfl, ← Int.ofNat_tmod]; omega
        have t3 : 12 + ((k : Int) + 3).tmod 4 = ((12 + (k + 3) % 4 : Nat) : Int) := by rw [show (k : Int) + 3 = ((k + 3 : Nat) : Int) by omega, show (4 : Int) = ((4 : Nat) : Int) from rfl, ← Int.ofNat_tmod]; omega
        rw [t1, t2, t3]
        refine quarter_of hl (by omega) (by omega) (by omega) (by omega) ⟨by unfold Ck; omega, hnext _ _ ⟨by omega, ?_⟩⟩
        rw [List.range_succ, List.foldl_append, ← hz]; rfl
    · rintro i z ⟨rfl, hz⟩ next
      refine ⟨fun h => absurd h (by omega), fun _ => ?_⟩
      have : z = ⟨doubF x.l⟩ := by cases z; simp only at hz; rw [hz, hy]; rfl
      rw [this]; exact hQ
  · refine lp2_inv 4 (fun k i z => i = (k : Int) ∧ z.l = (List.range k).foldl colF x.l) ⟨rfl, rfl⟩ ?_ ?_
    · rintro k hk i z ⟨rfl, hz⟩ next hnext
      have hl : z.l.length = 16 := by rw [hz, fold_len colF_len, hx]
      refine ⟨fun _ => ⟨by unfold Ck; omega, by unfold Ck; omega, by unfold Ck; omega, ?_⟩, fun h => absurd (by omega) h⟩
      rw [show 4 + (k : Int) = ((4 + k : Nat) : Int) by omega, show 8 + (k : Int) = ((8 + k : Nat) : Int) by omega, show 12 + (k : Int) = ((12 + k : Nat) : Int) by omega]
      refine quarter_of hl (by omega) (by omega) (by omega) (by omega) ⟨by unfold Ck; omega, hnext _ _ ⟨by omega, ?_⟩⟩
      rw [List.range_succ, List.foldl_append, ← hz]; rfl
    · rintro i z ⟨rfl, hz⟩ next
      exact ⟨fun h => absurd h (by omega), fun _ => hz⟩
end Go.Lx

/- PLAIN: a block of the stream; bytes turned by it. -/
namespace Go.Lx
def wordF (l : List UInt8) : BitVec 32 := ((((l.getD 0 0).toBitVec.setWidth 32) ||| (((l.getD 1 0).toBitVec.setWidth 32) <<< (8 : Nat))) ||| (((l.getD 2 0).toBitVec.setWidth 32) <<< (16 : Nat))) ||| (((l.getD 3 0).toBitVec.setWidth 32) <<< (24 : Nat))
theorem word_of {l : List UInt8} {Q : BitVec 32 → Prop} (h : 4 ≤ l.length) (hQ : Q (wordF l)) : cipher_word l Q :=
  ⟨_, atD (z := 0) (k := 0) (by omega), _, atD (z := 0) (k := 1) (by omega), _, atD (z := 0) (k := 2) (by omega), _, atD (z := 0) (k := 3) (by omega), hQ⟩
def w0F : List (BitVec 32) := [(1634760805#32), (857760878#32), (2036477234#32), (1797285236#32), (0#32), (0#32), (0#32), (0#32), (0#32), (0#32), (0#32), (0#32), (0#32), (0#32), (0#32), (0#32)]
def keyF (key : List UInt8) (w : List (BitVec 32)) (i : Nat) : List (BitVec 32) := w.set (4 + i) (wordF (key.drop (4 * i)))
def wF (key : List UInt8) (once n : BitVec 64) : List (BitVec 32) := ((((((List.range 8).foldl (keyF key) w0F).set 12 (n.setWidth 32)).set 13 ((n >>> (32 : Nat)).setWidth 32)).set 14 (once.setWidth 32)).set 15 ((once >>> (32 : Nat)).setWidth 32))
def outF (x w : List (BitVec 32)) (out : List UInt8) (i : Nat) : List UInt8 :=
  (((out.set (4 * i) (UInt8.ofBitVec ((x.getD i 0 + w.getD i 0).setWidth 8))).set (4 * i + 1) (UInt8.ofBitVec (((x.getD i 0 + w.getD i 0) >>> (8 : Nat)).setWidth 8))).set (4 * i + 2) (UInt8.ofBitVec (((x.getD i 0 + w.getD i 0) >>> (16 : Nat)).setWidth 8))).set (4 * i + 3) (UInt8.ofBitVec (((x.getD i 0 + w.getD i 0) >>> (24 : Nat)).setWidth 8))
def mixF (w : List (BitVec 32)) : List (BitVec 32) := (List.range 10).foldl (fun x _ => doubF x) w
def streamF (key : List UInt8) (once n : BitVec 64) : List UInt8 := (List.range 16).foldl (outF (mixF (wF key once n)) (wF key once n)) (List.replicate 64 0)
theorem keyF_len (key : List UInt8) (w : List (BitVec 32)) (i : Nat) : (keyF key w i).length = w.length := by simp [keyF]
theorem wF_len (key : List UInt8) (once n : BitVec 64) : (wF key once n).length = 16 := by simp only [wF, List.length_set, fold_len (keyF_len key)]; rfl
theorem mixF_len (w : List (BitVec 32)) : (mixF w).length = w.length := fold_len (f := fun x (_ : Nat) => doubF x) (fun w _ => doubF_len w) _ _
theorem outF_len (x w : List (BitVec 32)) : ∀ (l : List Nat) (out : List UInt8), (l.foldl (outF x w) out).length = out.length
  | [], _ => rfl
  | i :: l, out => by rw [List.foldl_cons, outF_len x w l]; simp [outF]
theorem streamF_len (key : List UInt8) (once n : BitVec 64) : (streamF key once n).length = 64 := by rw [streamF, outF_len]; simp
set_option maxHeartbeats 1000000 in
theorem stream_of {key : List UInt8} {once n : BitVec 64} {Q : Arr 64 UInt8 → Prop} (hk : 32 ≤ key.length) (hkl : key.length ≤ 1000000000) (hQ : Q ⟨streamF key once n⟩) : cipher_stream key once n Q := by
  unfold cipher_stream
  refine ⟨fun y => y.l = (List.range 8).foldl (keyF key) w0F, ?_, ?_⟩
  · intro y hy
    have hyl : y.l.length = 16 := by rw [hy, fold_len (keyF_len key)]; rfl
    have e12 : ∀ (l : List (BitVec 32)) v, put l 12 v = l.set 12 v := fun l v => put_nat l 12 v
    have e13 : ∀ (l : List (BitVec 32)) v, put l 13 v = l.set 13 v := fun l v => put_nat l 13 v
    have e14 : ∀ (l : List (BitVec 32)) v, put l 14 v = l.set 14 v := fun l v => put_nat l 14 v
    have e15 : ∀ (l : List (BitVec 32)) v, put l 15 v = l.set 15 v := fun l v => put_nat l 15 v
    simp only [e12, e13, e14, e15]
    have hw : ((((y.l.set 12 (n.setWidth 32)).set 13 ((n >>> (32 : Nat)).setWidth 32)).set 14 (once.setWidth 32)).set 15 ((once >>> (32 : Nat)).setWidth 32)) = wF key once n := by rw [hy]; rfl
    refine ⟨_, atD (z := 0) (k := 12) (by omega), _, atD (z := 0) (k := 13) (by simp only [List.length_set]; omega), _, atD (z := 0) (k := 14) (by simp only [List.length_set]; omega), _, atD (z := 0) (k := 15) (by simp only [List.length_set]; omega), ?_⟩
    rw [hw]
    have hwl := wF_len key once n
    generalize hW : wF key once n = W at hwl ⊢
    refine ⟨fun x => x.l = mixF W, ?_, ?_⟩
    · intro x hx
      have hxl : x.l.length = 16 := by rw [hx, mixF_len, hwl]
      refine ⟨fun o => o.l = streamF key once n, fun o ho => by cases o; simp only at ho; rw [ho]; exact hQ, ?_⟩
      refine lp2_inv 16 (fun k i o => i = (k : Int) ∧ o.l = (List.range k).foldl (outF x.l W) (List.replicate 64 0)) ⟨rfl, rfl⟩ ?_ ?_
      · rintro k hk i o ⟨rfl, ho⟩ next hnext
        have hol : o.l.length = 64 := by rw [ho, outF_len]; simp
        have f0 : 4 * (k : Int) = ((4 * k : Nat) : Int) := by omega
        have f1 : ((4 * k : Nat) : Int) + 1 = ((4 * k + 1 : Nat) : Int) := by omega
        have f2 : ((4 * k : Nat) : Int) + 2 = ((4 * k + 2 : Nat) : Int) := by omega
        have f3 : ((4 * k : Nat) : Int) + 3 = ((4 * k + 3 : Nat) : Int) := by omega
        refine ⟨fun _ => ⟨_, atD (z := 0) (by omega), _, atD (z := 0) (by omega), by unfold Ck; omega, by unfold Ck; omega, by unfold Ck; omega, by unfold Ck; omega, by unfold Ck; omega, by unfold Ck; omega, by unfold Ck; omega, ?_⟩, fun h => absurd (by omega) h⟩
        simp only [f0, f1, f2, f3, put_nat]
        refine ⟨_, atD (z := 0) (by omega), _, atD (z := 0) (by simp only [List.length_set]; omega), _, atD (z := 0) (by simp only [List.length_set]; omega), _, atD (z := 0) (by simp only [List.length_set]; omega), by unfold Ck; omega, hnext _ _ ⟨by omega, ?_⟩⟩
        rw [List.range_succ, List.foldl_append, ← ho, List.foldl_cons, List.foldl_nil, outF]
      · rintro i o ⟨rfl, ho⟩ next
        refine ⟨fun h => absurd h (by omega), fun _ => ?_⟩
        show o.l = _
        rw [ho, hx, streamF, hW]
    · refine lp2_inv 10 (fun k i x => i = (k : Int) ∧ x.l = (List.range k).foldl (fun x _ => doubF x) W) ⟨rfl, rfl⟩ ?_ ?_
      · rintro k hk i x ⟨rfl, hx⟩ next hnext
        have hxl : x.l.length = 16 := by rw [hx, fold_len (f := fun x (_ : Nat) => doubF x) (fun w _ => doubF_len w), hwl]
        refine ⟨fun _ => double_of hxl ⟨by unfold Ck; omega, hnext _ _ ⟨by omega, ?_⟩⟩, fun h => absurd (by omega) h⟩
        rw [List.range_succ, List.foldl_append, ← hx, List.foldl_cons, List.foldl_nil]
      · rintro i x ⟨rfl, hx⟩ next
        exact ⟨fun h => absurd h (by omega), fun _ => hx⟩
  · refine lp2_inv 8 (fun k i y => i = (k : Int) ∧ y.l = (List.range k).foldl (keyF key) w0F) ⟨rfl, rfl⟩ ?_ ?_
    · rintro k hk i y ⟨rfl, hy⟩ next hnext
      have hyl : y.l.length = 16 := by rw [hy, fold_len (keyF_len key)]; rfl
      refine ⟨fun _ => ⟨by unfold Ck; omega, by unfold Ck; omega, by omega, by omega, ?_⟩, fun h => absurd (by omega) h⟩
      rw [show 4 * (k : Int) = ((4 * k : Nat) : Int) by omega, cut_back, show 4 + (k : Int) = ((4 + k : Nat) : Int) by omega]
      refine word_of (by rw [List.length_drop]; omega) ⟨_, atD (z := 0) (by omega), by unfold Ck; omega, hnext _ _ ⟨by omega, ?_⟩⟩
      rw [List.range_succ, List.foldl_append, ← hy, put_nat]; rfl
    · rintro i y ⟨rfl, hy⟩ next
      exact ⟨fun h => absurd h (by omega), fun _ => hy⟩
end Go.Lx

/- PLAIN: bytes turned, tags, what is sealed, what is opened. -/
namespace Go.Lx
def sF (key : List UInt8) (once : BitVec 64) (j : Nat) : List UInt8 := streamF (key.take 32) once (BitVec.ofInt 64 (j : Int))
def maskF (key : List UInt8) (once : BitVec 64) (i : Nat) : UInt8 := (sF key once (i / 64)).getD (i % 64) 0
def TurnF (key : List UInt8) (once : BitVec 64) (b : List UInt8) : List UInt8 := b.mapIdx fun i x => x ^^^ maskF key once i
theorem TurnF_len (key : List UInt8) (once : BitVec 64) (b : List UInt8) : (TurnF key once b).length = b.length := by simp [TurnF]
theorem TurnF_snoc (key : List UInt8) (once : BitVec 64) (b : List UInt8) (x : UInt8) : TurnF key once (b ++ [x]) = TurnF key once b ++ [x ^^^ maskF key once b.length] := by simp [TurnF, List.mapIdx_append]
theorem turn_of {key : List UInt8} {once : BitVec 64} {b : List UInt8} {Q : List UInt8 → Int → Prop} (hkl : key.length ≤ 1000000000) (hb : b.length ≤ 1000000000) (h1 : key.length < 32 → Q [] 1) (h2 : 32 ≤ key.length → Q (TurnF key once b) 0) : cipher_Turn key once b Q := by
  unfold cipher_Turn
  refine ⟨fun h => h1 (by omega), fun h => ⟨by omega, by unfold Rm; omega, fun x => x = TurnF key once b, fun x hx => hx ▸ h2 (by omega), ?_⟩⟩
  refine lp3_inv b.length (fun k acc i s => i = (k : Int) ∧ acc = TurnF key once (b.take k) ∧ s.l.length = 64 ∧ (k % 64 ≠ 0 → s.l = sF key once (k / 64))) ⟨rfl, rfl, by simp, fun h => absurd rfl h⟩ ?_ ?_
  · rintro k hk acc i s ⟨rfl, rfl, hs, hs2⟩ next hnext
    have m1 : (k : Int).tmod 64 = ((k % 64 : Nat) : Int) := by rw [show (64 : Int) = ((64 : Nat) : Int) from rfl, ← Int.ofNat_tmod]
    have m2 : (k : Int).tdiv 64 = ((k / 64 : Nat) : Int) := by rw [show (64 : Int) = ((64 : Nat) : Int) from rfl, ← Int.ofNat_tdiv]
    rw [m1, m2]
    refine ⟨fun _ => ⟨b[k], At.get hk, fun s' => s'.l = sF key once (k / 64), ?_, fun h0 => ⟨by omega, by unfold Ck; omega, ?_⟩, fun h0 => hs2 (by omega)⟩, fun h => absurd (by omega) h⟩
    · intro s' hs'
      have hl : s'.l.length = 64 := by rw [hs']; exact streamF_len ..
      have htl : (b.take k).length = k := by rw [List.length_take]; omega
      refine ⟨_, atD (z := 0) (by omega), by unfold Rm; rw [TurnF_len]; simp; omega, by unfold Ck; omega, hnext _ _ _ ⟨by omega, ?_, hl, fun h => ?_⟩⟩
      · rw [take_succ' hk, TurnF_snoc, htl, maskF, hs']
      · rw [hs', show (k + 1) / 64 = k / 64 by omega]
    · rw [show (32 : Int) = ((32 : Nat) : Int) from rfl, cut_front]
      exact stream_of (by rw [List.length_take]; omega) (by rw [List.length_take]; omega) (by simp only [sF])
  · rintro acc i s ⟨rfl, rfl, _, _⟩ next
    refine ⟨fun h => absurd h (by omega), fun _ => ?_⟩
    show _ = _
    rw [List.take_length]
theorem orx {a x y : UInt8} : (a ||| (x ^^^ y)) = 0 ↔ a = 0 ∧ x = y := by
  rw [UInt8.or_eq_zero_iff, UInt8.xor_eq_zero_iff]
theorem equal_of {a b : List UInt8} {Q : Bool → Prop} (ha : a.length ≤ 1000000000) (hQ : Q (decide (a = b))) : hash_Equal a b Q := by
  unfold hash_Equal
  refine ⟨fun h => ?_, fun h => ?_⟩
  · rw [decide_eq_false (fun e => h (by rw [e]))] at hQ; exact hQ
  · have hl : a.length = b.length := by omega
    refine ⟨fun x => (x = 0 ↔ a = b), fun x hx => ?_, ?_⟩
    · replace hx : x = 0 ↔ a = b := hx
      have : decide ((x.toNat : Int) = 0) = decide (a = b) := by
        rw [decide_eq_decide, ← hx]
        exact ⟨fun h => UInt8.toNat_inj.1 (by rw [UInt8.toNat_zero]; omega), fun h => by rw [h]; rfl⟩
      show Q (decide ((x.toNat : Int) = 0))
      rw [this]; exact hQ
    · refine lp2_inv a.length (fun k x i => i = (k : Int) ∧ (x = 0 ↔ ∀ j, j < k → a[j]? = b[j]?)) ⟨rfl, ⟨fun _ j hj => absurd hj (by omega), fun _ => rfl⟩⟩ ?_ ?_
      · rintro k hk x i ⟨rfl, hx⟩ next hnext
        refine ⟨fun _ => ⟨a[k], At.get hk, b[k], At.get (by omega), by unfold Ck; omega, hnext _ _ ⟨by omega, ?_⟩⟩, fun h => absurd (by omega) h⟩
        rw [orx, hx]
        refine ⟨fun h j hj => ?_, fun h => ⟨fun j hj => h j (by omega), ?_⟩⟩
        · rcases Nat.lt_or_eq_of_le (Nat.le_of_lt_succ hj) with h2 | rfl
          · exact h.1 j h2
          · rw [List.getElem?_eq_getElem hk, List.getElem?_eq_getElem (by omega), h.2]
        · have := h k (by omega)
          rw [List.getElem?_eq_getElem hk, List.getElem?_eq_getElem (by omega)] at this
          exact Option.some.inj this
      · rintro x i ⟨rfl, hx⟩ next
        refine ⟨fun h => absurd h (by omega), fun _ => ?_⟩
        show x = 0 ↔ a = b
        rw [hx]
        refine ⟨fun h => List.ext_getElem? fun j => ?_, fun h j _ => by rw [h]⟩
        rcases Nat.lt_or_ge j a.length with h2 | h2
        · exact h j h2
        · rw [List.getElem?_eq_none h2, List.getElem?_eq_none (by omega)]
def preF (once : BitVec 64) (head : List UInt8) : List UInt8 := [] ++ putAll [((once >>> (1 : Nat)).toNat : Int), ((once &&& (1#64)).toNat : Int), (head.length : Int)]
def tagF (key : List UInt8) (once : BitVec 64) (head hidden : List UInt8) : List UInt8 := (Bl.keyed ((key.drop 32).take 32) [preF once head, head, hidden]).take 16
theorem tagF_len (key : List UInt8) (once : BitVec 64) (head hidden : List UInt8) : (tagF key once head hidden).length = 16 := by rw [tagF, List.length_take, Go.Sx.keyed_len]; rfl
theorem sh1 (x : BitVec 64) : ((x >>> (1 : Nat)).toNat : Int) ≤ 9223372036854775807 := by
  have h := x.isLt
  rw [BitVec.toNat_ushiftRight, Nat.shiftRight_eq_div_pow]; omega
theorem an1 (x : BitVec 64) : ((x &&& (1#64)).toNat : Int) ≤ 9223372036854775807 := by
  have h : (x &&& (1#64)).toNat ≤ 1 := by rw [BitVec.toNat_and]; exact Nat.and_le_right
  omega
theorem tag_of {key : List UInt8} {once : BitVec 64} {head hidden : List UInt8} {Q : List UInt8 → Prop} (hk : key.length = 64) (hh : head.length ≤ 1000000000) (hd : hidden.length ≤ 1000000000) (hQ : Q (tagF key once head hidden)) : cipher_tag key once head hidden Q := by
  unfold cipher_tag
  refine ⟨sh1 _, an1 _, octet_Put_of (by simp) ⟨by omega, ?_⟩⟩
  rw [show (32 : Int) = ((32 : Nat) : Int) from rfl, show (64 : Int) = ((64 : Nat) : Int) from rfl, cut_nat]
  refine ⟨by simp only [List.length_take, List.length_drop]; omega, fun bs hbs => ?_, by simp, hQ⟩
  simp only [List.mem_cons, List.not_mem_nil, or_false] at hbs
  rcases hbs with rfl | rfl | rfl
  · rw [List.nil_append, putAll_len]; simp
  · omega
  · omega
theorem seal_of {key : List UInt8} {once : BitVec 64} {head b : List UInt8} {Q : List UInt8 → Int → Prop} (hkl : key.length ≤ 1000000000) (hh : head.length ≤ 1000000000) (hb : b.length ≤ 1000000000) (h1 : key.length ≠ 64 → Q [] 1)
    (h2 : key.length = 64 → Q (TurnF key once b ++ tagF key once head (TurnF key once b)) 0) : cipher_Seal key once head b Q := by
  unfold cipher_Seal
  refine ⟨fun h => h1 (by omega), fun h => turn_of hkl hb (fun h => absurd h (by omega)) fun _ => tag_of (by omega) hh (by rw [TurnF_len]; omega) ⟨?_, h2 (by omega)⟩⟩
  unfold Rm; rw [TurnF_len, tagF_len]; omega
theorem open_of {key : List UInt8} {once : BitVec 64} {head s : List UInt8} {Q : List UInt8 → Int → Prop} (hkl : key.length ≤ 1000000000) (hh : head.length ≤ 1000000000) (hs : s.length ≤ 1000000000) (h1 : key.length ≠ 64 → Q [] 1) (h2 : key.length = 64 → s.length < 16 → Q [] 2)
    (h3 : key.length = 64 → 16 ≤ s.length → s.drop (s.length - 16) ≠ tagF key once head (s.take (s.length - 16)) → Q [] 121) (h4 : key.length = 64 → 16 ≤ s.length → s.drop (s.length - 16) = tagF key once head (s.take (s.length - 16)) → Q (TurnF key once (s.take (s.length - 16))) 0) : cipher_Open key once head s Q := by
  unfold cipher_Open
  refine ⟨fun h => h1 (by omega), fun h => ⟨fun hl => h2 (by omega) (by omega), fun hl => ?_⟩⟩
  have hk : key.length = 64 := by omega
  have hl2 : 16 ≤ s.length := by omega
  rw [show (s.length : Int) - 16 = ((s.length - 16 : Nat) : Int) by omega, cut_front, cut_back]
  refine ⟨by unfold Ck; omega, by omega, by omega, by unfold Ck; omega, by omega, by omega, tag_of hk hh (by rw [List.length_take]; omega) (equal_of (by rw [List.length_drop]; omega) ⟨fun h => ?_, fun h => ?_⟩)⟩
  · exact h3 hk hl2 (by simpa using h)
  · exact turn_of hkl (by rw [List.length_take]; omega) (fun h => absurd h (by omega)) fun _ => h4 hk hl2 (by simpa using h)
end Go.Lx

/- PLAIN: the example; CipherBack, CipherForm. -/
namespace Go.Lx
theorem bytes_Equal_of {a b : List UInt8} {Q : Bool → Prop} (hQ : Q (decide (a = b))) : bytes_Equal a b Q := hQ
theorem slices_Clone_of {a : List UInt8} {Q : List UInt8 → Prop} (ha : a.length ≤ 1000000000000) (hQ : Q a) : slices_Clone_sl_byte_byte a Q := by
  intro b hb
  refine ⟨fun h => ?_, fun _ => ⟨by unfold Rm; simp; omega, by simpa using hQ⟩⟩
  rw [hb h] at hQ; exact hQ
theorem long_of {l : List (List UInt8)} {Q : Bool → Prop} (hl : l.length ≤ 1000000000) (h1 : Q true) (h2 : (∀ b ∈ l, b.length ≤ 4096) → Q false) : sealskinlaw08_long l Q := by
  unfold sealskinlaw08_long slices_ContainsFunc_long slices_IndexFunc_long
  refine ⟨∀ b ∈ l, b.length ≤ 4096, fun h => h2 h, ?_⟩
  refine lp1_inv l.length (fun k i => i = (k : Int) ∧ ∀ j, (h : j < k) → (hj : j < l.length) → (l[j]).length ≤ 4096) ⟨rfl, fun j h => absurd h (by omega)⟩ ?_ ?_
  · rintro k hk i ⟨rfl, hi⟩ next hnext
    refine ⟨fun _ => ⟨l[k], At.get hk, fun h => ?_, fun h => ⟨by unfold Ck; omega, hnext _ ⟨by omega, fun j hj hjl => ?_⟩⟩⟩, fun h => absurd (by omega) h⟩
    · show Q (decide ((k : Int) ≥ 0))
      rw [decide_eq_true (by omega)]; exact h1
    · have h := of_decide_eq_false h
      rcases Nat.lt_or_eq_of_le (Nat.le_of_lt_succ hj) with h3 | rfl
      · exact hi j h3 hjl
      · omega
  · rintro i ⟨rfl, hi⟩ next
    refine ⟨fun h => absurd h (by omega), fun _ b hb => ?_⟩
    obtain ⟨j, hj, rfl⟩ := List.getElem_of_mem hb
    exact hi j hj hj
theorem ex_turn : TurnF (List.replicate 32 0) (0#64) (List.replicate 8 0) = [(118 : UInt8), (184 : UInt8), (224 : UInt8), (173 : UInt8), (160 : UInt8), (241 : UInt8), (61 : UInt8), (144 : UInt8)] := by decide +kernel
theorem turn_twice (key : List UInt8) (once : BitVec 64) (b : List UInt8) : TurnF key once (TurnF key once b) = b := by
  apply List.ext_getElem?
  intro j
  rw [TurnF, TurnF, List.getElem?_mapIdx, List.getElem?_mapIdx]
  cases b[j]? with
  | none => rfl
  | some x => simp [UInt8.xor_assoc]
theorem seal_open {key : List UInt8} {once : BitVec 64} {head b : List UInt8} : (TurnF key once b ++ tagF key once head (TurnF key once b)).take ((TurnF key once b ++ tagF key once head (TurnF key once b)).length - 16) = TurnF key once b ∧ (TurnF key once b ++ tagF key once head (TurnF key once b)).drop ((TurnF key once b ++ tagF key once head (TurnF key once b)).length - 16) = tagF key once head (TurnF key once b) := by
  rw [List.length_append, tagF_len, Nat.add_sub_cancel]
  exact ⟨List.take_left' rfl, List.drop_left' rfl⟩
theorem ex_tag : tagF (List.replicate 64 0) (7#64) [105] (TurnF (List.replicate 64 0) (7#64) [97, 98, 99]) ≠ tagF (List.replicate 64 0) (7#64) [104] (TurnF (List.replicate 64 0) (7#64) [97, 98, 99]) := by decide +kernel
theorem awake_of {Q : Bool → Prop} (hQ : Q true) : sealskinlaw08_awake Q := by
  unfold sealskinlaw08_awake
  refine turn_of (by simp) (by simp) (fun h => absurd h (by simp)) fun _ => seal_of (by simp) (by simp) (by simp) (fun h => absurd (by simp) h) fun _ => ?_
  have so := seal_open (key := List.replicate 64 0) (once := 7#64) (head := [104]) (b := [97, 98, 99])
  have hlen : (TurnF (List.replicate 64 0) (7#64) [97, 98, 99] ++ tagF (List.replicate 64 0) (7#64) [104] (TurnF (List.replicate 64 0) (7#64) [97, 98, 99])).length = 19 := by rw [List.length_append, TurnF_len, tagF_len]; rfl
  refine open_of (by simp) (by simp) (by rw [hlen]; decide) (fun h => absurd (by simp) h) (fun _ h => absurd h (by rw [hlen]; decide)) (fun _ _ h => absurd (by rw [so.1, so.2]) h) fun _ _ _ => ?_
  refine open_of (by simp) (by simp) (by rw [hlen]; decide) (fun h => absurd (by simp) h) (fun _ h => absurd h (by rw [hlen]; decide)) (fun _ _ _ => ?_) fun _ _ h => ?_
  · rw [so.1, turn_twice, ex_turn]
    refine bytes_Equal_of ⟨fun _ => ⟨fun _ => ⟨fun _ => ⟨fun _ => ⟨fun _ => ⟨fun _ => hQ, fun h => absurd rfl h⟩, fun h => absurd rfl h⟩, fun h => absurd (by rw [hlen]; rfl) h⟩, fun h => absurd rfl h⟩, fun h => absurd rfl h⟩, fun h => absurd h (by decide)⟩
  · rw [so.1, so.2] at h
    exact absurd h.symm ex_tag
theorem CipherForm_all (key : List UInt8) (once : BitVec 64) (head s : List UInt8) (_w0 : Wb key) (_w1 : True) (_w2 : Wb head) (_w3 : Wb s) : sealskinlaw08_CipherForm key once head s (fun r => r = true) := by
  unfold sealskinlaw08_CipherForm
  refine long_of (by simp) ⟨fun _ => awake_of rfl, fun h => by cases h⟩ fun hl => ⟨fun h => (by cases h), fun _ => ?_⟩
  have l0 : key.length ≤ 4096 := hl key (by simp)
  have l1 : head.length ≤ 4096 := hl head (by simp)
  have l2 : s.length ≤ 4096 := hl s (by simp)
  refine open_of (by omega) (by omega) (by omega) (fun _ => ⟨fun _ => ⟨fun _ => awake_of rfl, fun h => absurd rfl h⟩, fun h => absurd (by decide) h⟩) (fun _ _ => ⟨fun _ => ⟨fun _ => awake_of rfl, fun h => absurd rfl h⟩, fun h => absurd (by decide) h⟩)
    (fun _ _ _ => ⟨fun _ => ⟨fun _ => awake_of rfl, fun h => absurd rfl h⟩, fun h => absurd (by decide) h⟩) fun hk h16 ht => ⟨fun h => absurd rfl h, fun _ => ?_⟩
  refine seal_of (by omega) (by omega) (by rw [TurnF_len, List.length_take]; omega) (fun h => absurd hk h) fun _ => ⟨fun _ => bytes_Equal_of ?_, fun h => absurd rfl h⟩
  rw [turn_twice, ← ht, List.take_append_drop]
  exact ⟨fun _ => awake_of rfl, fun h => absurd h (by simp)⟩
theorem CipherBack_all (key : List UInt8) (once : BitVec 64) (head b : List UInt8) (_w0 : Wb key) (_w1 : True) (_w2 : Wb head) (_w3 : Wb b) : sealskinlaw08_CipherBack key once head b (fun r => r = true) := by
  unfold sealskinlaw08_CipherBack
  refine long_of (by simp) ⟨fun _ => awake_of rfl, fun h => by cases h⟩ fun hl => ⟨fun h => (by cases h), fun _ => ?_⟩
  have l0 : key.length ≤ 4096 := hl key (by simp)
  have l1 : head.length ≤ 4096 := hl head (by simp)
  have l2 : b.length ≤ 4096 := hl b (by simp)
  have rest : ∀ z : Bool, z = false → ((z = true) → (false = true)) ∧ ((z = false) → (cipher_Seal key once head b fun (r28_0 : List UInt8) (r28_1 : Int) => ((r28_1 ≠ 0) → ((((key.length : Int) ≠ 64) → ((((r28_0.length : Int) = 0) → (sealskinlaw08_awake fun (r37_0 : Bool) => r37_0 = true)) ∧ (¬ ((r28_0.length : Int) = 0) → (false = true)))) ∧ (¬ ((key.length : Int) ≠ 64) → (false = true)))) ∧ (¬ (r28_1 ≠ 0) → (cipher_Open key once head r28_0 fun (r42_0 : List UInt8) (r42_1 : Int) => ((r42_1 = 0) → (bytes_Equal r42_0 b fun (r47_0 : Bool) => ((r47_0 = true) → (Ck ((b.length : Int) + 16) ∧ (((r28_0.length : Int) = ((b.length : Int) + 16)) → (sealskinlaw08_awake fun (r51_0 : Bool) => r51_0 = true)) ∧ (¬ ((r28_0.length : Int) = ((b.length : Int) + 16)) → (false = true)))) ∧ ((r47_0 = false) → (false = true)))) ∧ (¬ (r42_1 = 0) → (false = true)))))) := by
    rintro z rfl
    refine ⟨fun h => (by cases h), fun _ => seal_of (by omega) (by omega) (by omega) (fun hk => ⟨fun _ => ⟨fun _ => ⟨fun _ => awake_of rfl, fun h => absurd rfl h⟩, fun h => absurd (by omega) h⟩, fun h => absurd (by decide) h⟩) fun hk => ⟨fun h => absurd rfl h, fun _ => ?_⟩⟩
    have so := seal_open (key := key) (once := once) (head := head) (b := b)
    have hlen : (TurnF key once b ++ tagF key once head (TurnF key once b)).length = b.length + 16 := by rw [List.length_append, TurnF_len, tagF_len]
    refine open_of (by omega) (by omega) (by omega) (fun h => absurd hk h) (fun _ h => absurd h (by omega)) (fun _ _ h => absurd (by rw [so.1, so.2]) h) fun _ _ _ => ?_
    rw [so.1, turn_twice]
    refine ⟨fun _ => bytes_Equal_of ⟨fun _ => ⟨by unfold Ck; omega, fun _ => awake_of rfl, fun h => absurd (by omega) h⟩, fun h => absurd h (by simp)⟩, fun h => absurd rfl h⟩
  refine turn_of (by omega) (by omega) (fun hk => ?_) fun hk => ?_
  · refine turn_of (by omega) (by simp) (fun _ => ?_) fun h => absurd h (by omega)
    refine ⟨fun z => z = false, fun z hz => rest z hz, fun h => absurd rfl h, fun _ => ⟨fun h => absurd h (by decide), fun _ => ?_⟩⟩
    have : decide ((key.length : Int) ≥ 32) = false := decide_eq_false (by omega)
    show (!(decide ((1 : Int) = 0) == decide ((key.length : Int) ≥ 32))) = false
    rw [this]; rfl
  · refine turn_of (by omega) (by rw [TurnF_len]; omega) (fun h => absurd h (by omega)) fun _ => ?_
    rw [turn_twice]
    refine ⟨fun z => z = false, fun z hz => rest z hz, fun h => absurd rfl h, fun _ => ⟨fun _ => bytes_Equal_of ⟨fun h => absurd h (by simp), fun _ => ?_⟩, fun h => absurd rfl h⟩⟩
    have : decide ((key.length : Int) ≥ 32) = true := decide_eq_true (by omega)
    show (!(decide ((0 : Int) = 0) == decide ((key.length : Int) ≥ 32))) = false
    rw [this]; rfl
end Go.Lx

/- PLAIN: CipherFronts. -/
namespace Go.Lx
theorem prefix_of {a b : List UInt8} {Q : Bool → Prop} (h : b.length ≤ a.length) (hQ : Q (decide (a.take b.length = b))) : bytes_HasPrefix a b Q := by
  unfold bytes_HasPrefix
  refine ⟨fun _ => ⟨by omega, by omega, ?_⟩, fun h => absurd (by omega) h⟩
  rw [cut_front]
  exact hQ
theorem TurnF_app (key : List UInt8) (once : BitVec 64) (a b : List UInt8) : (TurnF key once (a ++ b)).take a.length = TurnF key once a := by
  rw [TurnF, List.mapIdx_append, List.take_left' (by simp)]; rfl
theorem CipherFronts_all (key : List UInt8) (once : BitVec 64) (a b : List UInt8) (_w0 : Wb key) (_w1 : True) (_w2 : Wb a) (_w3 : Wb b) : sealskinlaw08_CipherFronts key once a b (fun r => r = true) := by
  unfold sealskinlaw08_CipherFronts
  refine long_of (by simp) ⟨fun _ => awake_of rfl, fun h => by cases h⟩ fun hl => ⟨fun h => (by cases h), fun _ => ?_⟩
  have l0 : key.length ≤ 4096 := hl key (by simp)
  have l1 : a.length ≤ 4096 := hl a (by simp)
  have l2 : b.length ≤ 4096 := hl b (by simp)
  have e : [a, b].flatten = a ++ b := by simp
  have hab : (a ++ b).length = a.length + b.length := List.length_append
  refine turn_of (by omega) (by omega) (fun hk => ⟨by rw [e]; omega, by simp, ?_⟩) fun hk => ⟨by rw [e]; omega, by simp, ?_⟩
  · rw [e]
    refine turn_of (by omega) (by omega) (fun _ => ⟨fun _ => prefix_of (Nat.le_refl _) ⟨fun _ => ⟨fun _ => awake_of rfl, fun h => absurd (by decide) h⟩, fun h => absurd h (by simp)⟩, fun h => absurd rfl h⟩) fun h => absurd h (by omega)
  · rw [e]
    refine turn_of (by omega) (by omega) (fun h => absurd h (by omega)) fun _ => ⟨fun _ => prefix_of (by rw [TurnF_len, TurnF_len]; omega) ?_, fun h => absurd rfl h⟩
    rw [TurnF_len, TurnF_app, decide_eq_true rfl]
    refine ⟨fun _ => ⟨fun h => absurd rfl h, fun _ => ⟨fun _ => ⟨by unfold Ck; omega, fun _ => awake_of rfl, fun h => absurd (by rw [TurnF_len]; omega) h⟩, fun h => absurd rfl h⟩⟩, fun h => absurd h (by simp)⟩
end Go.Lx

