/- What is shown of the program on the way to the law. -/
import Derived.Test.YtbjmngacjdcddaaDoorZW1
import Derived.Test.YtbjmngacjdcddaaDoorZW5
import Derived.Test.YtbjmngacjdcddaaDoorProg
set_option linter.unusedVariables false
set_option linter.unusedSimpArgs false
set_option maxHeartbeats 4000000
namespace Go.Proofs.YtbjmngacjdcddaaDoor
open Go Go.Sx

namespace TFhg
theorem hm : Tryd.prog.follows .mixedOrders = true := by kernel_rfl
theorem ag125 : aggB Tryd.prog 125 = some true := by kernel_rfl
theorem ag126 : aggB Tryd.prog 126 = some true := by kernel_rfl
theorem ag30 : aggB Tryd.prog 30 = some false := by kernel_rfl
theorem bd80 : bodied Tryd.prog 80 = true := by kernel_rfl
theorem el30 : Elem Tryd.prog 30 5 1 1 := Elem.of (by kernel_rfl)
theorem sz125 : sz Tryd.prog 125 = some 8 := by kernel_rfl
theorem sz126 : sz Tryd.prog 126 = some 8 := by kernel_rfl
theorem sz30 : sz Tryd.prog 30 = some 1 := by kernel_rfl
theorem sz5 : sz Tryd.prog 5 = some 1 := by kernel_rfl
theorem zr5 : zr Tryd.prog 5 = some ([.int .u8 0]) := by kernel_rfl
end TFhg
open TFhg
theorem grow_any (n : Nat) (w : World) (hn : n ≤ 70368744177664) : Calls Tryd.prog 80 #[.slice none 0 0, vi n] w fun e w2 => ∃ A c, e = .returned (.slice A 0 c) ∧ OwnB w2 w.heap.size 5 A c [] ∧ Fr [] w w2 := by
 have hF := Fr.refl [] w
 have hQ := OwnB.nil w w.heap.size 5
 refine calls_W 27 Tryd.func80 rfl Tryd.ntmps80 rfl [.tmp 4] rfl ?_
 refine W_seq_k fun K1_ hK1_ => ?_
 refine W_region [4] rfl (Ops_step (R_assign rfl) rfl rfl ?_)
 refine Ops_nil ?_
 refine then_n (hK1_ _ _ ?_)
 clear hK1_ K1_
 refine W_seq_k fun K2_ hK2_ => ?_
 refine W_seq_k fun K3_ hK3_ => ?_
 refine W_region [5, 6] rfl (Ops_step (R_move rfl) rfl rfl (Ops_step (R_lss rfl rfl) rfl rfl ?_))
 refine Ops_nil ?_
 refine then_n (hK3_ _ _ ?_)
 clear hK3_ K3_
 refine W_no rfl (by omega) ?_
 refine W_skip ?_
 refine then_n (hK2_ _ _ ?_)
 clear hK2_ K2_
 refine W_seq_k fun K4_ hK4_ => ?_
 refine W_seq_k fun K5_ hK5_ => ?_
 refine W_region [8, 9, 10, 11, 12, 13, 14, 1] rfl (Ops_step (R_move rfl) rfl rfl (Ops_step (R_move rfl) rfl rfl (Ops_step (R_cap Tryd.underlying30 rfl rfl) rfl rfl (Ops_step (R_move rfl) rfl rfl ?_))))
 refine Ops_step (R_len Tryd.underlying30 rfl rfl) rfl rfl (Ops_step (R_sub rfl rfl (wI (by omega) (by omega))) rfl rfl (Ops_step (R_sub rfl rfl (wI (by omega) (by omega))) rfl rfl ?_))
 have e14 : ((n : Int) - (((0 : Nat) : Int) - ((0 : Nat) : Int))) = (n : Int) := by omega
 rw [e14]
 refine Ops_step (R_assign rfl) rfl rfl ?_
 refine Ops_nil ?_
 refine then_n (hK5_ _ _ ?_)
 clear hK5_ K5_
 refine W_keepB [0, 1] fun B6 hB6_ => ?_
 simp only [e_, Nat.reduceAdd, Nat.reduceBEq] at hB6_
 subst hB6_
 refine W_seq_k fun K7_ hK7_ => ?_
 refine W_region [15, 16] rfl (Ops_step (R_move rfl) rfl rfl (Ops_step (R_gtr rfl rfl) rfl rfl ?_))
 refine Ops_nil ?_
 refine then_n (hK7_ _ _ ?_)
 clear hK7_ K7_
 refine W_if rfl (fun hc16 => ?_) (fun hc16 => ?_)
 ·
  refine W_region [17, 18, 19, 20, 21, 22, 23, 24, 25, 0] rfl (Ops_step (R_move rfl) rfl rfl (Ops_step (R_move rfl) rfl rfl (Ops_step (R_cap Tryd.underlying30 rfl rfl) rfl rfl ?_)))
  refine Ops_step (R_sliceTo (h := 0) Tryd.underlying30 sz5 rfl ⟨_, _, rfl, rfl⟩ rfl (by decide) (by omega) (by omega)) rfl rfl ?_
  refine Ops_step (R_move rfl) rfl rfl ?_
  refine Ops_to (R_appendZeros el30 zr5 (by decide) Tryd.underlying3 rfl rfl hQ (by omega) (by simp only [maxLen]; omega) hF.size) rfl rfl ?_
  clear hQ
  rintro _ w22_ ⟨A22, c22, rfl, hQ, hF22_⟩
  replace hF := hF.then hF22_ (by simp [blkOf])
  clear hF22_
  have hQ2 := hQ.cut0
  have hcp := hQ.cap
  clear hQ
  have hQ := hQ2
  refine Ops_step (R_move rfl) rfl rfl (Ops_step (R_len Tryd.underlying30 rfl rfl) rfl rfl ?_)
  refine Ops_step (R_sliceTo (h := 0) Tryd.underlying30 sz5 rfl ⟨_, _, rfl, rfl⟩ rfl (by decide) (by omega) (by omega)) rfl rfl ?_
  refine Ops_step (R_assign rfl) rfl rfl ?_
  refine Ops_nil ?_
  refine then_n (hK4_ _ _ ?_)
  clear hK4_ K4_
  refine W_keepB [0] fun B8 hB8_ => ?_
  simp only [e_, Nat.reduceAdd, Nat.reduceBEq] at hB8_
  subst hB8_
  refine W_seq_k fun K9_ hK9_ => ?_
  refine W_region [26, 4] rfl (Ops_step (R_move rfl) rfl rfl (Ops_step (R_assign rfl) rfl rfl ?_))
  refine Ops_nil ?_
  refine then_n (hK9_ _ _ ?_)
  clear hK9_ K9_
  refine W_ret ?_
  refine ⟨_, ⟨_, _, rfl, rfl, rfl⟩, ?_⟩
  exact ⟨_, _, rfl, hQ, hF⟩
 ·
  refine W_skip ?_
  refine then_n (hK4_ _ _ ?_)
  clear hK4_ K4_
  refine W_seq_k fun K10_ hK10_ => ?_
  refine W_region [26, 4] rfl (Ops_step (R_move rfl) rfl rfl (Ops_step (R_assign rfl) rfl rfl ?_))
  refine Ops_nil ?_
  refine then_n (hK10_ _ _ ?_)
  clear hK10_ K10_
  refine W_ret ?_
  refine ⟨_, ⟨_, _, rfl, rfl, rfl⟩, ?_⟩
  exact ⟨_, _, rfl, hQ, hF⟩
theorem concat_any (LA : Option Addr) (L : List (List UInt8)) (lc : Nat) (w : World) (hL : RdLL w LA L) (hs : L.flatten.length ≤ 1099511627776) (hm : L.length ≤ 1099511627776) :
  Calls Tryd.prog 60 #[.slice LA L.length lc] w fun e w2 => ∃ A c, e = .returned (.slice A L.flatten.length c) ∧ OwnB w2 w.heap.size 5 A c L.flatten ∧ Fr [] w w2 := by
 have hF := Fr.refl [] w
 refine calls_W 36 Tryd.func60 rfl Tryd.ntmps60 rfl [.tmp 2] rfl ?_
 refine W_seq_k fun K1_ hK1_ => ?_
 refine W_region [2] rfl (Ops_step (R_assign rfl) rfl rfl ?_)
 refine Ops_nil ?_
 refine then_n (hK1_ _ _ ?_)
 clear hK1_ K1_
 refine W_seq_k fun K2_ hK2_ => ?_
 refine W_region [3] rfl (Ops_step (R_assign rfl) rfl rfl ?_)
 refine Ops_nil ?_
 refine then_n (hK2_ _ _ ?_)
 clear hK2_ K2_
 refine W_seq_k fun K3_ hK3_ => ?_
 refine W_seq_k fun K4_ hK4_ => ?_
 refine W_region [9, 10, 11] rfl (Ops_step (R_move rfl) rfl rfl (Ops_step (R_len Tryd.underlying99 rfl rfl) rfl rfl (Ops_step (R_move rfl) rfl rfl ?_)))
 refine Ops_nil ?_
 refine then_n (hK4_ _ _ ?_)
 clear hK4_ K4_
 refine W_block ?_
 refine W_loopB [0, 9, 10] [3, 11] (fun m vs w' => ∃ i, i ≤ L.length ∧ m = L.length - i ∧ vs = [vi ((L.take i).flatten.length : Nat), vi (i : Nat)] ∧ Fr [] w w') (L.length) _ rfl (⟨0, by omega, rfl, rfl, hF⟩) fun B5 hB5_ => ?_
 simp only [e_, Nat.reduceAdd, Nat.reduceBEq] at hB5_
 subst hB5_
 clear hF
 rintro m_ vs_ w0_ ⟨i, hi, rfl, rfl, hF⟩
 refine W_seq_k fun K6_ hK6_ => ?_
 refine W_region [12] rfl (Ops_step (R_lss rfl rfl) rfl rfl ?_)
 refine Ops_nil ?_
 refine then_n (hK6_ _ _ ?_)
 clear hK6_ K6_
 refine W_seq_k fun K7_ hK7_ => ?_
 refine W_if rfl (fun hc12 => ?_) (fun hc12 => ?_)
 ·
  have hi1 : i < L.length := by omega
  have hx := (hL.fr0 hF) i _ (List.getElem?_eq_getElem hi1)
  have htk := sum_take hi1
  have htl := take_le (L := L) (i + 1)
  refine named L[i] fun bs ebs => ?_
  rw [← ebs] at hx htk
  obtain ⟨hs1, Ai, ci, hs3, hs4⟩ := hx
  rw [htk, List.length_append] at htl
  refine W_skip ?_
  refine then_n (hK7_ _ _ ?_)
  clear hK7_ K7_
  refine W_seq_k fun K8_ hK8_ => ?_
  refine W_block ?_
  refine W_seq_k fun K9_ hK9_ => ?_
  refine W_region [13, 14, 5] rfl (Ops_step (R_indexSl Tryd.underlying99 sz30 rfl rfl (by omega) (by omega) hs1) rfl rfl (Ops_step (R_load ag30 rfl (by simpa using hs3)) rfl rfl (Ops_step (R_assign rfl) rfl rfl ?_)))
  refine Ops_nil ?_
  refine then_n (hK9_ _ _ ?_)
  clear hK9_ K9_
  refine W_seq_k fun K10_ hK10_ => ?_
  refine W_region [15, 16, 17, 18, 3] rfl (Ops_step (R_move rfl) rfl rfl (Ops_step (R_move rfl) rfl rfl (Ops_step (R_len Tryd.underlying30 rfl rfl) rfl rfl ?_)))
  refine Ops_step (R_add rfl rfl (wIc (n := ((L.take i).flatten.length) + bs.length) (by omega) (by omega))) rfl rfl ?_
  refine Ops_step (R_assign rfl) rfl rfl ?_
  refine Ops_nil ?_
  refine then_n (hK10_ _ _ ?_)
  clear hK10_ K10_
  refine W_keepB [0, 3, 9, 10, 11] fun B11 hB11_ => ?_
  simp only [e_, Nat.reduceAdd, Nat.reduceBEq] at hB11_
  subst hB11_
  refine W_seq_k fun K12_ hK12_ => ?_
  refine W_region [19, 20] rfl (Ops_step (R_move rfl) rfl rfl (Ops_step (R_lss rfl rfl) rfl rfl ?_))
  refine Ops_nil ?_
  refine then_n (hK12_ _ _ ?_)
  clear hK12_ K12_
  refine W_no rfl (by omega) ?_
  refine W_skip ?_
  refine block_n ?_
  refine then_n (hK8_ _ _ ?_)
  clear hK8_ K8_
  refine W_region [22, 11] rfl ?_
  refine Ops_step (R_add rfl rfl (wIc (n := i + 1) (by omega) (by omega))) rfl rfl ?_
  refine Ops_step (R_move rfl) rfl rfl ?_
  refine Ops_nil ?_
  exact ⟨L.length - (i + 1), _, by omega, rfl, ⟨i + 1, by omega, rfl, by rw [htk, List.length_append], hF⟩, ⟨rfl, rfl, rfl, trivial⟩⟩
 ·
  have hil : i = L.length := by omega
  subst hil
  rw [List.take_length]
  refine W_exit ?_
  refine then_exit ?_
  clear hK7_ K7_
  refine then_exit ?_
  refine block_exit ?_
  refine then_n (hK3_ _ _ ?_)
  clear hK3_ K3_
  refine W_seq_k fun K13_ hK13_ => ?_
  refine W_region [23, 24, 6] rfl (Ops_step (R_move rfl) rfl rfl ?_)
  have hz24 := hF.size
  refine Ops_call (C_func bd80 rfl) rfl rfl ?_
  refine (grow_any _ _ (by omega)).mono ?_
  rintro _ w24_ ⟨A24, c24, rfl, hQ24, hF24_⟩
  replace hF := hF.fr0 hF24_
  clear hF24_
  replace hQ24 := hQ24.le hz24
  refine ⟨_, rfl, ?_⟩
  refine Ops_step (R_assign rfl) rfl rfl ?_
  refine Ops_nil ?_
  refine then_n (hK13_ _ _ ?_)
  clear hK13_ K13_
  refine W_keepB [0, 6] fun B14 hB14_ => ?_
  simp only [e_, Nat.reduceAdd, Nat.reduceBEq] at hB14_
  subst hB14_
  refine W_seq_k fun K15_ hK15_ => ?_
  refine W_seq_k fun K16_ hK16_ => ?_
  refine W_region [25, 26, 27] rfl (Ops_step (R_move rfl) rfl rfl (Ops_step (R_len Tryd.underlying99 rfl rfl) rfl rfl (Ops_step (R_move rfl) rfl rfl ?_)))
  refine Ops_nil ?_
  refine then_n (hK16_ _ _ ?_)
  clear hK16_ K16_
  refine W_block ?_
  refine W_loopB [25, 26] [6, 27] (fun m vs w' => ∃ i A6 c6, i ≤ L.length ∧ m = L.length - i ∧ vs = [.slice A6 (L.take i).flatten.length c6, vi (i : Nat)] ∧ OwnB w' w.heap.size 5 A6 c6 (L.take i).flatten ∧ Fr [] w w') (L.length) _ rfl (⟨0, _, _, by omega, rfl, rfl, hQ24, hF⟩) fun B17 hB17_ => ?_
  simp only [e_, Nat.reduceAdd, Nat.reduceBEq] at hB17_
  subst hB17_
  clear hQ24 hF
  rintro m_ vs_ w0_ ⟨i, A6, c6, hi, rfl, rfl, hQ6, hF⟩
  refine W_seq_k fun K18_ hK18_ => ?_
  refine W_region [28] rfl (Ops_step (R_lss rfl rfl) rfl rfl ?_)
  refine Ops_nil ?_
  refine then_n (hK18_ _ _ ?_)
  clear hK18_ K18_
  refine W_seq_k fun K19_ hK19_ => ?_
  refine W_if rfl (fun hc28 => ?_) (fun hc28 => ?_)
  ·
   have hi1 : i < L.length := by omega
   have hx := (hL.fr0 hF) i _ (List.getElem?_eq_getElem hi1)
   have htk := sum_take hi1
   have htl := take_le (L := L) (i + 1)
   refine named L[i] fun bs ebs => ?_
   rw [← ebs] at hx htk
   obtain ⟨hs1, Ai, ci, hs3, hs4⟩ := hx
   rw [htk, List.length_append] at htl
   refine W_skip ?_
   refine then_n (hK19_ _ _ ?_)
   clear hK19_ K19_
   refine W_seq_k fun K20_ hK20_ => ?_
   refine W_block ?_
   refine W_seq_k fun K21_ hK21_ => ?_
   refine W_region [29, 30, 8] rfl (Ops_step (R_indexSl Tryd.underlying99 sz30 rfl rfl (by omega) (by omega) hs1) rfl rfl (Ops_step (R_load ag30 rfl (by simpa using hs3)) rfl rfl (Ops_step (R_assign rfl) rfl rfl ?_)))
   refine Ops_nil ?_
   refine then_n (hK21_ _ _ ?_)
   clear hK21_ K21_
   refine W_region [31, 32, 33, 6] rfl (Ops_step (R_move rfl) rfl rfl (Ops_step (R_move rfl) rfl rfl ?_))
   have hof := hQ6.off
   have hzz := hF.size
   refine Ops_to (R_appendB el30 Tryd.underlying30 rfl rfl rfl rfl hQ6 hs4 (by omega) (by omega) (by decide)) rfl rfl ?_
   clear hQ6
   rintro _ w33_ ⟨A33, c33, rfl, hQ6, hF33_⟩
   replace hF := hF.then hF33_ (fun i_ hi_ hj_ => absurd (hof i_ hi_) (by omega))
   clear hF33_
   refine Ops_step (R_assign rfl) rfl rfl ?_
   refine Ops_nil ?_
   refine block_n ?_
   refine then_n (hK20_ _ _ ?_)
   clear hK20_ K20_
   refine W_keepB [6, 25, 26, 27] fun B22 hB22_ => ?_
   simp only [e_, Nat.reduceAdd, Nat.reduceBEq] at hB22_
   subst hB22_
   refine W_region [34, 27] rfl ?_
   refine Ops_step (R_add rfl rfl (wIc (n := i + 1) (by omega) (by omega))) rfl rfl ?_
   refine Ops_step (R_move rfl) rfl rfl ?_
   refine Ops_nil ?_
   exact ⟨L.length - (i + 1), _, by omega, rfl, ⟨i + 1, _, _, by omega, rfl, by rw [htk], by rw [htk]; exact hQ6, hF⟩, ⟨rfl, rfl, trivial⟩⟩
  ·
   have hil : i = L.length := by omega
   subst hil
   rw [List.take_length] at hQ6 ⊢
   refine W_exit ?_
   refine then_exit ?_
   clear hK19_ K19_
   refine then_exit ?_
   refine block_exit ?_
   refine then_n (hK15_ _ _ ?_)
   clear hK15_ K15_
   refine W_seq_k fun K23_ hK23_ => ?_
   refine W_region [35, 2] rfl (Ops_step (R_move rfl) rfl rfl (Ops_step (R_assign rfl) rfl rfl ?_))
   refine Ops_nil ?_
   refine then_n (hK23_ _ _ ?_)
   clear hK23_ K23_
   refine W_keepB [2] fun B24 hB24_ => ?_
   simp only [e_, Nat.reduceAdd, Nat.reduceBEq] at hB24_
   subst hB24_
   refine W_ret ?_
   refine ⟨_, ⟨_, _, rfl, rfl, rfl⟩, ?_⟩
   exact ⟨_, _, rfl, hQ6, hF⟩

end Go.Proofs.YtbjmngacjdcddaaDoor

