/- PLAIN: a block of the stream; bytes turned by it. -/
import Derived.Test.YtohneemghiehdaaDoorK2b
set_option linter.unusedVariables false
set_option linter.unusedSimpArgs false
namespace Go.Lx
def wordF (l : List UInt8) : BitVec 32 := ((((l.getD 0 0).toBitVec.setWidth 32) ||| (((l.getD 1 0).toBitVec.setWidth 32) <<< (8 : Nat))) ||| (((l.getD 2 0).toBitVec.setWidth 32) <<< (16 : Nat))) ||| (((l.getD 3 0).toBitVec.setWidth 32) <<< (24 : Nat))
theorem word_of {l : List UInt8} {Q : BitVec 32 → Prop} (h : 4 ≤ l.length) (hQ : Q (wordF l)) : cipher_word l Q :=
  ⟨_, atD (z := 0) (k := 0) (by omega), _, atD (z := 0) (k := 1) (by omega), _, atD (z := 0) (k := 2) (by omega), _, atD (z := 0) (k := 3) (by omega), hQ⟩
def w0F : List (BitVec 32) := [(1634760805#32), (857760878#32), (2036477234#32), (1797285236#32), (0#32), (0#32), (0#32), (0#32), (0#32), (0#32), (0#32), (0#32), (0#32), (0#32), (0#32), (0#32)]
def keyF (key : List UInt8) (w : List (BitVec 32)) (i : Nat) : List (BitVec 32) := w.set (4 + i) (wordF (key.drop (4 * i)))
def wF (key : List UInt8) (once n : BitVec 64) : List (BitVec 32) := ((((((List.range 8).foldl (keyF key) w0F).set 12 (n.setWidth 32)).set 13 ((n >>> (32 : Nat)).setWidth 32)).set 14 (once.setWidth 32)).set 15 ((once >>> (32 : Nat)).setWidth 32))
def outF (x w : List (BitVec 32)) (out : List UInt8) (i : Nat) : List UInt8 :=
  (((out.set (4 * i) (UInt8.ofBitVec ((x.getD i 0 + w.getD i 0).setWidth 8))).set (4 * i + 1) (UInt8.ofBitVec (((x.getD i 0 + w.getD i 0) >>> (8 : Nat)).setWidth 8))).set (4 * i + 2) (UInt8.ofBitVec (((x.getD i 0 + w.getD i 0) >>> (16 : Nat)).setWidth 8))).set (4 * i + 3) (UInt8.ofBitVec (((x.getD i 0 + w.getD i 0) >>> (24 : Nat)).setWidth 8))
def mixF (w : List (BitVec 32)) : List (BitVec 32) := (List.range 10).foldl (fun x _ => doubF x) w
def streamF (key : List UInt8) (once n : BitVec 64) : List UInt8 := (List.range 16).foldl (outF (mixF (wF key once n)) (wF key once n)) (List.replicate 64 0)
theorem keyF_len (key : List UInt8) (w : List (BitVec 32)) (i : Nat) : (keyF key w i).length = w.length := by simp [keyF]
theorem wF_len (key : List UInt8) (once n : BitVec 64) : (wF key once n).length = 16 := by simp only [wF, List.length_set, fold_len (keyF_len key)]; rfl
theorem mixF_len (w : List (BitVec 32)) : (mixF w).length = w.length := fold_len (f := fun x (_ : Nat) => doubF x) (fun w _ => doubF_len w) _ _
theorem outF_len (x w : List (BitVec 32)) : ∀ (l : List Nat) (out : List UInt8), (l.foldl (outF x w) out).length = out.length
  | [], _ => rfl
  | i :: l, out => by rw [List.foldl_cons, outF_len x w l]; simp [outF]
theorem streamF_len (key : List UInt8) (once n : BitVec 64) : (streamF key once n).length = 64 := by rw [streamF, outF_len]; simp
set_option maxHeartbeats 1000000 in
theorem stream_of {key : List UInt8} {once n : BitVec 64} {Q : Arr 64 UInt8 → Prop} (hk : 32 ≤ key.length) (hkl : key.length ≤ 1000000000) (hQ : Q ⟨streamF key once n⟩) : cipher_stream key once n Q := by
  unfold cipher_stream
  refine ⟨fun y => y.l = (List.range 8).foldl (keyF key) w0F, ?_, ?_⟩
  · intro y hy
    have hyl : y.l.length = 16 := by rw [hy, fold_len (keyF_len key)]; rfl
    have e12 : ∀ (l : List (BitVec 32)) v, put l 12 v = l.set 12 v := fun l v => put_nat l 12 v
    have e13 : ∀ (l : List (BitVec 32)) v, put l 13 v = l.set 13 v := fun l v => put_nat l 13 v
    have e14 : ∀ (l : List (BitVec 32)) v, put l 14 v = l.set 14 v := fun l v => put_nat l 14 v
    have e15 : ∀ (l : List (BitVec 32)) v, put l 15 v = l.set 15 v := fun l v => put_nat l 15 v
    simp only [e12, e13, e14, e15]
    have hw : ((((y.l.set 12 (n.setWidth 32)).set 13 ((n >>> (32 : Nat)).setWidth 32)).set 14 (once.setWidth 32)).set 15 ((once >>> (32 : Nat)).setWidth 32)) = wF key once n := by rw [hy]; rfl
    refine ⟨_, atD (z := 0) (k := 12) (by omega), _, atD (z := 0) (k := 13) (by simp only [List.length_set]; omega), _, atD (z := 0) (k := 14) (by simp only [List.length_set]; omega), _, atD (z := 0) (k := 15) (by simp only [List.length_set]; omega), ?_⟩
    rw [hw]
    have hwl := wF_len key once n
    generalize hW : wF key once n = W at hwl ⊢
    refine ⟨fun x => x.l = mixF W, ?_, ?_⟩
    · intro x hx
      have hxl : x.l.length = 16 := by rw [hx, mixF_len, hwl]
      refine ⟨fun o => o.l = streamF key once n, fun o ho => by cases o; simp only at ho; rw [ho]; exact hQ, ?_⟩
      refine lp2_inv 16 (fun k i o => i = (k : Int) ∧ o.l = (List.range k).foldl (outF x.l W) (List.replicate 64 0)) ⟨rfl, rfl⟩ ?_ ?_
      · rintro k hk i o ⟨rfl, ho⟩ next hnext
        have hol : o.l.length = 64 := by rw [ho, outF_len]; simp
        have f0 : 4 * (k : Int) = ((4 * k : Nat) : Int) := by omega
        have f1 : ((4 * k : Nat) : Int) + 1 = ((4 * k + 1 : Nat) : Int) := by omega
        have f2 : ((4 * k : Nat) : Int) + 2 = ((4 * k + 2 : Nat) : Int) := by omega
        have f3 : ((4 * k : Nat) : Int) + 3 = ((4 * k + 3 : Nat) : Int) := by omega
        refine ⟨fun _ => ⟨_, atD (z := 0) (by omega), _, atD (z := 0) (by omega), by unfold Ck; omega, by unfold Ck; omega, by unfold Ck; omega, by unfold Ck; omega, by unfold Ck; omega, by unfold Ck; omega, by unfold Ck; omega, ?_⟩, fun h => absurd (by omega) h⟩
        simp only [f0, f1, f2, f3, put_nat]
        refine ⟨_, atD (z := 0) (by omega), _, atD (z := 0) (by simp only [List.length_set]; omega), _, atD (z := 0) (by simp only [List.length_set]; omega), _, atD (z := 0) (by simp only [List.length_set]; omega), by unfold Ck; omega, hnext _ _ ⟨by omega, ?_⟩⟩
        rw [List.range_succ, List.foldl_append, ← ho, List.foldl_cons, List.foldl_nil, outF]
      · rintro i o ⟨rfl, ho⟩ next
        refine ⟨fun h => absurd h (by omega), fun _ => ?_⟩
        show o.l = _
        rw [ho, hx, streamF, hW]
    · refine lp2_inv 10 (fun k i x => i = (k : Int) ∧ x.l = (List.range k).foldl (fun x _ => doubF x) W) ⟨rfl, rfl⟩ ?_ ?_
      · rintro k hk i x ⟨rfl, hx⟩ next hnext
        have hxl : x.l.length = 16 := by rw [hx, fold_len (f := fun x (_ : Nat) => doubF x) (fun w _ => doubF_len w), hwl]
        refine ⟨fun _ => double_of hxl ⟨by unfold Ck; omega, hnext _ _ ⟨by omega, ?_⟩⟩, fun h => absurd (by omega) h⟩
        rw [List.range_succ, List.foldl_append, ← hx, List.foldl_cons, List.foldl_nil]
      · rintro i x ⟨rfl, hx⟩ next
        exact ⟨fun h => absurd h (by omega), fun _ => hx⟩
  · refine lp2_inv 8 (fun k i y => i = (k : Int) ∧ y.l = (List.range k).foldl (keyF key) w0F) ⟨rfl, rfl⟩ ?_ ?_
    · rintro k hk i y ⟨rfl, hy⟩ next hnext
      have hyl : y.l.length = 16 := by rw [hy, fold_len (keyF_len key)]; rfl
      refine ⟨fun _ => ⟨by unfold Ck; omega, by unfold Ck; omega, by omega, by omega, ?_⟩, fun h => absurd (by omega) h⟩
      rw [show 4 * (k : Int) = ((4 * k : Nat) : Int) by omega, cut_back, show 4 + (k : Int) = ((4 + k : Nat) : Int) by omega]
      refine word_of (by rw [List.length_drop]; omega) ⟨_, atD (z := 0) (by omega), by unfold Ck; omega, hnext _ _ ⟨by omega, ?_⟩⟩
      rw [List.range_succ, List.foldl_append, ← hy, put_nat]; rfl
    · rintro i y ⟨rfl, hy⟩ next
      exact ⟨fun h => absurd h (by omega), fun _ => hy⟩
end Go.Lx
