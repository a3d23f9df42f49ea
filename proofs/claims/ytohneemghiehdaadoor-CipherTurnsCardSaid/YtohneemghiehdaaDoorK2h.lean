/- PLAIN: the reference's block is the block of the stream. -/
import Derived.Test.YtohneemghiehdaaDoorK2g
set_option linter.unusedVariables false
set_option linter.unusedSimpArgs false
namespace Go.Lx
open Go.Sx
theorem inB_eq (x : BitVec 32) (b : UInt8) : (x / (256#32)) + ((b.toBitVec.setWidth 32) * (16777216#32)) = inB x b := by
  apply BitVec.eq_of_toNat_eq
  have hx := x.isLt
  have hb : b.toBitVec.toNat < 256 := b.toBitVec.isLt
  rw [inB_nat, BitVec.toNat_add, BitVec.toNat_udiv, BitVec.toNat_mul, BitVec.toNat_setWidth]
  have e1 : (256#32).toNat = 256 := rfl
  have e2 : (16777216#32).toNat = 16777216 := rfl
  have e3 : b.toNat = b.toBitVec.toNat := rfl
  rw [e1, e2, e3]
  omega
theorem getD_td (key : List UInt8) {i m : Nat} (h : 4 * i + m < 32) : ((key.take 32).drop (4 * i)).getD m 0 = key.getD (4 * i + m) 0 := by
  rw [List.getD_eq_getElem?_getD, List.getD_eq_getElem?_getD, List.getElem?_drop, List.getElem?_take_of_lt h]
theorem word_td (key : List UInt8) {i : Nat} (h : i < 8) : wordF ((key.take 32).drop (4 * i)) = Bl.word key i := by
  unfold wordF Bl.word
  rw [getD_td key (show 4 * i + 0 < 32 by omega), getD_td key (show 4 * i + 1 < 32 by omega), getD_td key (show 4 * i + 2 < 32 by omega), getD_td key (show 4 * i + 3 < 32 by omega)]
  rfl
theorem keyfold_zero (key : List UInt8) : ∀ (i j : Nat), i ≤ j → j < 8 → ((List.range i).foldl (keyF key) w0F).getD (4 + j) 0 = 0
  | 0, j, _, hj => by
    have : ∀ j : Fin 8, w0F.getD (4 + j.1) 0 = 0 := by decide
    exact this ⟨j, hj⟩
  | i + 1, j, h, hj => by
    rw [List.range_succ, List.foldl_append, List.foldl_cons, List.foldl_nil, keyF, List.getD_eq_getElem?_getD, List.getElem?_set_ne (by omega), ← List.getD_eq_getElem?_getD]
    exact keyfold_zero key i j (by omega) hj
theorem set_self {l : List (BitVec 32)} {i : Nat} (h : l.getD i 0 = 0) (hi : i < l.length) : l.set i 0 = l := by
  apply List.ext_getElem?
  intro j
  by_cases e : i = j
  · subst e
    rw [List.getElem?_set_self hi, List.getElem?_eq_getElem hi]
    rw [List.getD_eq_getElem?_getD, List.getElem?_eq_getElem hi] at h
    rw [← show l[i] = 0 from h]
  · rw [List.getElem?_set_ne e]
theorem mod32 (x : BitVec 64) : (x % (4294967296#64)).setWidth 32 = x.setWidth 32 := by
  apply BitVec.eq_of_toNat_eq
  rw [BitVec.toNat_setWidth, BitVec.toNat_umod, BitVec.toNat_setWidth]
  have e : (4294967296#64).toNat = 4294967296 := rfl
  rw [e]; omega
theorem div32 (x : BitVec 64) : (x / (4294967296#64)).setWidth 32 = (x >>> (32 : Nat)).setWidth 32 := by
  apply BitVec.eq_of_toNat_eq
  rw [BitVec.toNat_setWidth, BitVec.toNat_udiv, BitVec.toNat_setWidth, BitVec.toNat_ushiftRight, Nat.shiftRight_eq_div_pow]
  have e : (4294967296#64).toNat = 4294967296 := rfl
  rw [e]
theorem mod8 (v : BitVec 32) : (v % (256#32)).setWidth 8 = v.setWidth 8 := by
  apply BitVec.eq_of_toNat_eq
  rw [BitVec.toNat_setWidth, BitVec.toNat_umod, BitVec.toNat_setWidth]
  have e : (256#32).toNat = 256 := rfl
  rw [e]; omega
theorem div8 (v : BitVec 32) : v / (256#32) = v >>> (8 : Nat) := by
  apply BitVec.eq_of_toNat_eq
  rw [BitVec.toNat_udiv, BitVec.toNat_ushiftRight, Nat.shiftRight_eq_div_pow]
  rfl
def b4 (v : BitVec 32) : List UInt8 := [UInt8.ofBitVec (v.setWidth 8), UInt8.ofBitVec ((v >>> (8 : Nat)).setWidth 8), UInt8.ofBitVec ((v >>> (16 : Nat)).setWidth 8), UInt8.ofBitVec ((v >>> (24 : Nat)).setWidth 8)]
def outL (x w : List (BitVec 32)) (k : Nat) : List UInt8 := (List.range k).flatMap fun i => b4 (x.getD i 0 + w.getD i 0)
theorem outL_succ (x w : List (BitVec 32)) (k : Nat) : outL x w (k + 1) = outL x w k ++ b4 (x.getD k 0 + w.getD k 0) := by simp [outL, List.range_succ]
theorem outL_len (x w : List (BitVec 32)) : ∀ k, (outL x w k).length = 4 * k
  | 0 => rfl
  | k + 1 => by rw [outL_succ, List.length_append, outL_len x w k]; simp [b4]; omega
theorem out_fold (x w : List (BitVec 32)) : ∀ k, k ≤ 16 → (List.range k).foldl (outF x w) (List.replicate 64 0) = outL x w k ++ List.replicate (64 - 4 * k) 0
  | 0, _ => rfl
  | k + 1, h => by
    have hl := outL_len x w k
    rw [List.range_succ, List.foldl_append, List.foldl_cons, List.foldl_nil, out_fold x w k (by omega), outL_succ]
    generalize outL x w k = A at hl ⊢
    rw [show 64 - 4 * k = (64 - 4 * (k + 1)) + 1 + 1 + 1 + 1 by omega, List.replicate_succ, List.replicate_succ, List.replicate_succ, List.replicate_succ]
    unfold outF
    generalize x.getD k 0 + w.getD k 0 = v
    rw [List.set_append_right _ _ (by omega), List.set_append_right _ _ (by omega), List.set_append_right _ _ (by omega), List.set_append_right _ _ (by omega)]
    rw [show 4 * k - A.length = 0 by omega, show 4 * k + 1 - A.length = 1 by omega, show 4 * k + 2 - A.length = 2 by omega, show 4 * k + 3 - A.length = 3 by omega]
    simp [b4]
theorem stream_out (key : List UInt8) (once n : BitVec 64) : streamF key once n = outL (mixF (wF key once n)) (wF key once n) 16 := by
  rw [streamF, out_fold _ _ 16 (by decide)]; simp
theorem b4_at (v : BitVec 32) {k : Nat} (h : k < 4) : (b4 v).take (k + 1) = (b4 v).take k ++ [UInt8.ofBitVec (((v >>> (8 * k)) % (256#32)).setWidth 8)] := by
  rw [mod8]
  match k, h with
  | 0, _ | 1, _ | 2, _ | 3, _ => simp [b4]
theorem rblock_of {key : List UInt8} {once : BitVec 64} {j : Nat} {Q : List UInt8 → Prop} (hk : 32 ≤ key.length) (hkl : key.length ≤ 1000000000) (hQ : Q (streamF (key.take 32) once (BitVec.ofInt 64 (j : Int)))) : sealskinref08_block key once (j : Int) Q := by
  unfold sealskinref08_block
  simp only [mod32, div32]
  refine ⟨fun y => y.l = (List.range 8).foldl (keyF (key.take 32)) w0F, ?_, ?_⟩
  · intro y hy
    have hyl : y.l.length = 16 := by rw [hy, fold_len (keyF_len _)]; rfl
    have e12 : ∀ (l : List (BitVec 32)) v, put l 12 v = l.set 12 v := fun l v => put_nat l 12 v
    have e13 : ∀ (l : List (BitVec 32)) v, put l 13 v = l.set 13 v := fun l v => put_nat l 13 v
    have e14 : ∀ (l : List (BitVec 32)) v, put l 14 v = l.set 14 v := fun l v => put_nat l 14 v
    have e15 : ∀ (l : List (BitVec 32)) v, put l 15 v = l.set 15 v := fun l v => put_nat l 15 v
    simp only [e12, e13, e14, e15]
    generalize hn : BitVec.ofInt 64 (j : Int) = n at hQ ⊢
    have hw : ((((y.l.set 12 (n.setWidth 32)).set 13 ((n >>> (32 : Nat)).setWidth 32)).set 14 (once.setWidth 32)).set 15 ((once >>> (32 : Nat)).setWidth 32)) = wF (key.take 32) once n := by rw [hy, wF]
    refine ⟨_, atD (z := 0) (k := 12) (by omega), _, atD (z := 0) (k := 13) (by simp only [List.length_set]; omega), _, atD (z := 0) (k := 14) (by simp only [List.length_set]; omega), _, atD (z := 0) (k := 15) (by simp only [List.length_set]; omega), ?_⟩
    rw [hw]
    have hwl := wF_len (key.take 32) once n
    rw [stream_out] at hQ
    generalize wF (key.take 32) once n = W at hwl hQ ⊢
    refine ⟨fun x => x.l = mixF W, ?_, ?_⟩
    · intro x hx
      have hxl : x.l.length = 16 := by rw [hx, mixF_len, hwl]
      refine ⟨fun o => o = outL x.l W 16, fun o ho => by rw [ho, hx]; exact hQ, ?_⟩
      refine lp2_inv 16 (fun k o i => i = (k : Int) ∧ o = outL x.l W k) ⟨rfl, rfl⟩ ?_ ?_
      · rintro k hk16 o i ⟨rfl, rfl⟩ next hnext
        refine ⟨fun _ => ⟨fun o => o = outL x.l W (k + 1), fun o ho => ⟨by unfold Ck; omega, hnext _ _ ⟨by omega, ho⟩⟩, _, atD (z := 0) (by omega), _, atD (z := 0) (by omega), ?_⟩, fun h => absurd (by omega) h⟩
        have hol := outL_len x.l W k
        rw [outL_succ]
        generalize x.l.getD k 0 + W.getD k 0 = v
        generalize outL x.l W k = A at hol ⊢
        refine lp3_inv 4 (fun m acc u i => i = (m : Int) ∧ acc = A ++ (b4 v).take m ∧ u = v >>> (8 * m)) ⟨rfl, by simp, by simp⟩ ?_ ?_
        · rintro m hm acc u i ⟨rfl, rfl, rfl⟩ next2 hnext2
          refine ⟨fun _ => ⟨by unfold Rm; rw [List.length_append, List.length_take, hol]; simp [b4]; omega, by unfold Ck; omega, hnext2 _ _ _ ⟨by omega, ?_, ?_⟩⟩, fun h => absurd (by omega) h⟩
          · rw [b4_at v hm, List.append_assoc]
          · rw [div8, ← BitVec.shiftRight_add]; rfl
        · rintro acc u i ⟨rfl, rfl, _⟩ next2
          refine ⟨fun h => absurd h (by omega), fun _ => ?_⟩
          show _ = _
          rw [List.take_of_length_le (by simp [b4])]
      · rintro o i ⟨rfl, rfl⟩ next
        exact ⟨fun h => absurd h (by omega), fun _ => rfl⟩
    · refine lp2_inv 10 (fun k i x => i = (k : Int) ∧ x.l = (List.range k).foldl (fun x _ => doubF x) W) ⟨rfl, rfl⟩ ?_ ?_
      · rintro k hk10 i x ⟨rfl, hx⟩ next hnext
        have hxl : x.l.length = 16 := by rw [hx, fold_len (f := fun x (_ : Nat) => doubF x) (fun w _ => doubF_len w), hwl]
        refine ⟨fun _ => ⟨fun y => y.l = doubF x.l, fun y hy => ⟨by unfold Ck; omega, hnext _ _ ⟨by omega, ?_⟩⟩, fun y => y.l = (List.range 4).foldl colF x.l, ?_, ?_⟩, fun h => absurd (by omega) h⟩
        · rw [List.range_succ, List.foldl_append, ← hx, List.foldl_cons, List.foldl_nil, hy]
        · intro y hy
          refine lp2_inv 4 (fun k i z => i = (k : Int) ∧ z.l = (List.range k).foldl diaF y.l) ⟨rfl, rfl⟩ ?_ ?_
          · rintro k hk i z ⟨rfl, hz⟩ next hnext
            have hl : z.l.length = 16 := by rw [hz, fold_len diaF_len, hy, fold_len colF_len, hxl]
            have t1 : ((k : Int) + 1).tmod 4 = ((k + 1) % 4 : Nat) := by rw [show (k : Int) + 1 = ((k + 1 : Nat) : Int) by omega, show (4 : Int) = ((4 : Nat) : Int) from rfl, ← Int.ofNat_tmod]
            have t2 : ((k : Int) + 2).tmod 4 = ((k + 2) % 4 : Nat) := by rw [show (k : Int) + 2 = ((k + 2 : Nat) : Int) by omega, show (4 : Int) = ((4 : Nat) : Int) from rfl, ← Int.ofNat_tmod]
            have t3 : ((k : Int) + 3).tmod 4 = ((k + 3) % 4 : Nat) := by rw [show (k : Int) + 3 = ((k + 3 : Nat) : Int) by omega, show (4 : Int) = ((4 : Nat) : Int) from rfl, ← Int.ofNat_tmod]
            rw [t1, t2, t3]
            refine ⟨fun _ => ⟨by unfold Ck; omega, by unfold Ck; omega, by unfold Ck; omega, by unfold Ck; omega, by unfold Ck; omega, by unfold Ck; omega, ?_⟩, fun h => absurd (by omega) h⟩
            have s1 : 4 + (((k + 1) % 4 : Nat) : Int) = ((4 + (k + 1) % 4 : Nat) : Int) := by omega
            have s2 : 8 + (((k + 2) % 4 : Nat) : Int) = ((8 + (k + 2) % 4 : Nat) : Int) := by omega
            have s3 : 12 + (((k + 3) % 4 : Nat) : Int) = ((12 + (k + 3) % 4 : Nat) : Int) := by omega
            rw [s1, s2, s3]
            refine rquarter_of hl (by omega) (by omega) (by omega) (by omega) ⟨by unfold Ck; omega, hnext _ _ ⟨by omega, ?_⟩⟩
            rw [List.range_succ, List.foldl_append, ← hz]; rfl
          · rintro i z ⟨rfl, hz⟩ next
            refine ⟨fun h => absurd h (by omega), fun _ => ?_⟩
            show z.l = doubF x.l
            rw [hz, hy, doubF]
        · refine lp2_inv 4 (fun k i z => i = (k : Int) ∧ z.l = (List.range k).foldl colF x.l) ⟨rfl, rfl⟩ ?_ ?_
          · rintro k hk i z ⟨rfl, hz⟩ next hnext
            have hl : z.l.length = 16 := by rw [hz, fold_len colF_len, hxl]
            refine ⟨fun _ => ⟨by unfold Ck; omega, by unfold Ck; omega, by unfold Ck; omega, ?_⟩, fun h => absurd (by omega) h⟩
            rw [show 4 + (k : Int) = ((4 + k : Nat) : Int) by omega, show 8 + (k : Int) = ((8 + k : Nat) : Int) by omega, show 12 + (k : Int) = ((12 + k : Nat) : Int) by omega]
            refine rquarter_of hl (by omega) (by omega) (by omega) (by omega) ⟨by unfold Ck; omega, hnext _ _ ⟨by omega, ?_⟩⟩
            rw [List.range_succ, List.foldl_append, ← hz]; rfl
          · rintro i z ⟨rfl, hz⟩ next
            exact ⟨fun h => absurd h (by omega), fun _ => hz⟩
      · rintro i x ⟨rfl, hx⟩ next
        exact ⟨fun h => absurd h (by omega), fun _ => hx⟩
  · refine lp2_inv 8 (fun k i y => i = (k : Int) ∧ y.l = (List.range k).foldl (keyF (key.take 32)) w0F) ⟨rfl, rfl⟩ ?_ ?_
    · rintro k hk8 i y ⟨rfl, hy⟩ next hnext
      have hyl : y.l.length = 16 := by rw [hy, fold_len (keyF_len _)]; rfl
      have hz := keyfold_zero (key.take 32) k k (Nat.le_refl _) hk8
      rw [← hy] at hz
      refine ⟨fun _ => ⟨fun z => z.l = y.l.set (4 + k) (inN key k 4), fun z hz2 => ⟨by unfold Ck; omega, hnext _ _ ⟨by omega, ?_⟩⟩, ?_⟩, fun h => absurd (by omega) h⟩
      · rw [hz2, List.range_succ, List.foldl_append, ← hy, List.foldl_cons, List.foldl_nil, keyF, word_td key hk8, inN_word]
      · refine lp2_inv 4 (fun m i z => i = (m : Int) ∧ z.l = y.l.set (4 + k) (inN key k m)) ⟨rfl, (set_self hz (by omega)).symm⟩ ?_ ?_
        · rintro m hm i z ⟨rfl, hz2⟩ next2 hnext2
          have hzl : z.l.length = 16 := by rw [hz2, List.length_set, hyl]
          have f1 : 4 + (k : Int) = ((4 + k : Nat) : Int) := by omega
          have f2 : 4 * (k : Int) + (m : Int) = ((4 * k + m : Nat) : Int) := by omega
          rw [f2, f1]
          refine ⟨fun _ => ⟨by unfold Ck; omega, by unfold Ck; omega, _, atD (z := 0) (by omega), by unfold Ck; omega, by unfold Ck; omega, _, atD (z := 0) (by omega), _, atD (z := 0) (by omega), by unfold Ck; omega, hnext2 _ _ ⟨by omega, ?_⟩⟩, fun h => absurd (by omega) h⟩
          show put z.l _ _ = _
          rw [put_nat, inB_eq, hz2, List.set_set, inN]
          congr 2
          rw [List.getD_eq_getElem?_getD, List.getElem?_set_self (by omega)]; rfl
        · rintro i z ⟨rfl, hz2⟩ next2
          exact ⟨fun h => absurd h (by omega), fun _ => hz2⟩
    · rintro i y ⟨rfl, hy⟩ next
      exact ⟨fun h => absurd h (by omega), fun _ => hy⟩
end Go.Lx
