/- What is shown of the program on the way to the law. -/
import Derived.Test.YtbjmngacjdcddaaDoorZW8
import Derived.Test.YtbjmngacjdcddaaDoorZW13
import Derived.Test.YtbjmngacjdcddaaDoorProg
set_option linter.unusedVariables false
set_option linter.unusedSimpArgs false
set_option maxHeartbeats 4000000
namespace Go.Proofs.YtbjmngacjdcddaaDoor
open Go Go.Sx

namespace TFhk
theorem hm : Tryd.prog.follows .mixedOrders = true := by kernel_rfl
theorem ag125 : aggB Tryd.prog 125 = some true := by kernel_rfl
theorem ag126 : aggB Tryd.prog 126 = some true := by kernel_rfl
theorem bd78 : bodied Tryd.prog 78 = true := by kernel_rfl
theorem bd79 : bodied Tryd.prog 79 = true := by kernel_rfl
theorem el30 : Elem Tryd.prog 30 5 1 1 := Elem.of (by kernel_rfl)
theorem el99 : Elem Tryd.prog 99 30 1 24 := Elem.of (by kernel_rfl)
theorem sz125 : sz Tryd.prog 125 = some 8 := by kernel_rfl
theorem sz126 : sz Tryd.prog 126 = some 8 := by kernel_rfl
theorem sz5 : sz Tryd.prog 5 = some 1 := by kernel_rfl
theorem sz96 : sz Tryd.prog 96 = some 32 := by kernel_rfl
theorem zr30 : zr Tryd.prog 30 = some ([.slice none 0 0]) := by kernel_rfl
theorem zr5 : zr Tryd.prog 5 = some ([.int .u8 0]) := by kernel_rfl
theorem zr96 : zr Tryd.prog 96 = some (List.replicate 32 (.int .u8 0)) := by kernel_rfl
end TFhk
open TFhk
theorem key_any (A0 : Option Addr) (c0 : Nat) (secret : List UInt8) (A1 : Option Addr) (c1 : Nat) (use : List UInt8) (m : Nat) (w : World) (hm : m ≤ 8160) (hs : Rd w A0 (secret.map vb)) (hsl : secret.length ≤ 1099511627776) (hu : Rd w A1 (use.map vb)) (hul : use.length ≤ 1099511627776) (hO : Rd w (some ⟨2, 0, none⟩) ordC) :
  Calls Tryd.prog 56 #[.slice A0 secret.length c0, .slice A1 use.length c1, vi m] w fun e w2 => ∃ A c, e = .returned (.tuple #[.slice A m c, vi 0]) ∧ OwnB w2 w.heap.size 5 A c ((Bl.keyO (Bl.keyed secret [use]) 255).take m) ∧ Fr [] w w2 := by
 have hF := Fr.refl [] w
 have sO : 2 < w.heap.size := hO.ltO
 refine calls_W 44 Tryd.func56 rfl Tryd.ntmps56 rfl [.tmp 6, .tmp 7] rfl ?_
 refine W_seq_k fun K1_ hK1_ => ?_
 refine W_region [6, 7] rfl (Ops_step (R_assign rfl) rfl rfl (Ops_step (R_assign rfl) rfl rfl ?_))
 refine Ops_nil ?_
 refine then_n (hK1_ _ _ ?_)
 clear hK1_ K1_
 refine W_seq_k fun K2_ hK2_ => ?_
 refine W_seq_k fun K3_ hK3_ => ?_
 refine W_region [13, 14, 15, 16, 17, 18] rfl (Ops_step (R_move rfl) rfl rfl (Ops_step (R_lss rfl rfl) rfl rfl (Ops_step (R_move rfl) rfl rfl ?_)))
 refine Ops_known (b := false) 15 rfl (decide_eq_false (by omega)) ?_
 refine Ops_step (R_move rfl) rfl rfl (Ops_step (R_gtr rfl rfl) rfl rfl (Ops_step (R_pick_false rfl rfl) rfl rfl ?_))
 refine Ops_nil ?_
 refine then_n (hK3_ _ _ ?_)
 clear hK3_ K3_
 refine W_keepB [0, 1, 2, 18] fun B4 hB4_ => ?_
 simp only [e_, Nat.reduceAdd, Nat.reduceBEq] at hB4_
 subst hB4_
 refine W_if rfl (fun hc18 => ?_) (fun hc18 => ?_)
 ·
  omega
 ·
  refine W_skip ?_
  refine then_n (hK2_ _ _ ?_)
  clear hK2_ K2_
  refine W_seq_k fun K5_ hK5_ => ?_
  refine W_region [19, 20, 21, 22, 8, none] rfl (Ops_step (R_move rfl) rfl rfl (Ops_step (R_move rfl) rfl rfl ?_))
  have hz21_hF := hF.size
  refine Ops_to (R_buildSlice el99 zr30 (by decide) (by decide) rfl rfl) rfl rfl ?_
  rintro _ w21_ ⟨b21, rfl, hb21, hB21, hF21_⟩
  have hl21 := hB21.lt
  replace hF := hF.fr0 hF21_
  clear hF21_
  refine Ops_call (C_func bd78 rfl) rfl rfl ?_
  refine (keyed_any _ secret _ _ _ [use] _ _ (by rfl) (hs.fr0 hF) (by omega) (RdLL.lit hB21 [use] [(A1, c1)] rfl rfl (by simp only [List.zip_cons_cons, List.zip_nil_right, List.forall_mem_cons]; exact ⟨(hu.fr0 hF), by simp⟩)) (by simp; omega) (by simp) (hO.fr0 hF)).mono ?_
  rintro _ w22_ ⟨rfl, hF22_⟩
  replace hF := hF.fr0 hF22_
  replace hB21 := hB21.fr0 hF22_
  clear hF22_
  refine ⟨_, rfl, ?_⟩
  have hz8_hF := hF.size
  refine Ops_to (R_alloc zr96) rfl rfl ?_
  rintro _ w8_ ⟨b8, rfl, hb8, hB8, hF8_⟩
  have hl8 := hB8.lt
  replace hF := hF.fr0 hF8_
  clear hF8_
  refine Ops_to0 (R_storeN sz96 (by simp [keyed_len]) rfl rfl hB8 (by simp) allb) rfl ?_
  clear hB8
  rintro _ w6_ ⟨hB8, hF6_⟩
  replace hF := hF.then hF6_ (by simp only [mc_]; intro i_ hi_ hj_; omega)
  clear hF6_
  refine named (Bl.keyed secret [use]) fun root er => ?_
  have lr : root.length = 32 := by rw [er]; exact keyed_len _ _
  replace hB8 := hB8.to (cs' := root.map vb) (by rw [List.toList_toArray, er]; simp [over, keyed_len])
  refine Ops_nil ?_
  refine then_n (hK5_ _ _ ?_)
  clear hK5_ K5_
  refine W_keepB [2, 8] fun B7 hB7_ => ?_
  simp only [e_, Nat.reduceAdd, Nat.reduceBEq] at hB7_
  subst hB7_
  refine W_seq_k fun K8_ hK8_ => ?_
  refine W_region [9, 10] rfl (Ops_step (R_assign rfl) rfl rfl (Ops_step (R_assign rfl) rfl rfl ?_))
  refine Ops_nil ?_
  refine then_n (hK8_ _ _ ?_)
  clear hK8_ K8_
  refine W_seq_k fun K9_ hK9_ => ?_
  refine W_seq_k fun K10_ hK10_ => ?_
  refine W_region [11] rfl (Ops_step (R_assign rfl) rfl rfl ?_)
  refine Ops_nil ?_
  refine then_n (hK10_ _ _ ?_)
  clear hK10_ K10_
  refine W_block ?_
  refine W_loopB [2, 8] [9, 10, 11] (fun mm vs w' => ∃ k A9 c9 A10 c10, mm = 255 - k ∧ k ≤ 255 ∧ vs = [.slice A9 (Bl.keyO root k).length c9, .slice A10 (Bl.keyT root k).length c10, vb (UInt8.ofNat (k + 1))] ∧ OwnB w' w.heap.size 5 A9 c9 (Bl.keyO root k) ∧ Rd w' A10 ((Bl.keyT root k).map vb) ∧ Blk w' b8 96 (root.map vb) ∧ Fr [] w w') (255) _ rfl (⟨0, none, 0, none, 0, by omega, by omega, rfl, OwnB.nil _ _ _, Rd.nil _ _, hB8, hF⟩) fun B11 hB11_ => ?_
  simp only [e_, Nat.reduceAdd, Nat.reduceBEq] at hB11_
  subst hB11_
  clear hB8 hF
  rintro m_ vs_ w0_ ⟨k, A9, c9, A10, c10, rfl, hk, rfl, hQ9, hR10, hB8, hF⟩
  have hF10 := Fr.refl [] w0_
  refine W_seq_k fun K12_ hK12_ => ?_
  refine W_seq_k fun K13_ hK13_ => ?_
  refine W_region [23, 24, 25, 26] rfl (Ops_step (R_move rfl) rfl rfl (Ops_step (R_len Tryd.underlying30 rfl rfl) rfl rfl (Ops_step (R_move rfl) rfl rfl (Ops_step (R_lss rfl rfl) rfl rfl ?_))))
  refine Ops_nil ?_
  refine then_n (hK13_ _ _ ?_)
  clear hK13_ K13_
  refine W_if rfl (fun hc26 => ?_) (fun hc26 => ?_)
  ·
   have hk255 : k < 255 := by rw [keyO_len] at hc26; omega
   refine W_skip ?_
   refine then_n (hK12_ _ _ ?_)
   clear hK12_ K12_
   refine W_seq_k fun K14_ hK14_ => ?_
   refine W_block ?_
   refine W_seq_k fun K15_ hK15_ => ?_
   refine W_region [29, 30, 31, 32, 33, 34, 12, none] rfl (Ops_step (R_sliceAll Tryd.underlying96 sz5 rfl) rfl rfl (Ops_step (R_move rfl) rfl rfl (Ops_step (R_move rfl) rfl rfl ?_)))
   have hz32_hF := hF.size
   have hz32_hF10 := hF10.size
   have hn32_hQ9 := hQ9.lt
   have hn32_hB8 := hB8.lt
   refine Ops_to (R_buildSlice el30 zr5 (by decide) (by decide) rfl rfl) rfl rfl ?_
   rintro _ w32_ ⟨b32, rfl, hb32, hB32, hF32_⟩
   have hl32 := hB32.lt
   replace hF := hF.fr0 hF32_
   replace hF10 := hF10.fr0 hF32_
   replace hQ9 := hQ9.fr0 hF32_
   replace hB8 := hB8.fr0 hF32_
   clear hF32_
   have hz33_hF := hF.size
   have hz33_hF10 := hF10.size
   have hn33_hQ9 := hQ9.lt
   have hn33_hB8 := hB8.lt
   have hn33_hB32 := hB32.lt
   refine Ops_to (R_buildSlice el99 zr30 (by decide) (by decide) rfl rfl) rfl rfl ?_
   rintro _ w33_ ⟨b33, rfl, hb33, hB33, hF33_⟩
   have hl33 := hB33.lt
   replace hF := hF.fr0 hF33_
   replace hF10 := hF10.fr0 hF33_
   replace hQ9 := hQ9.fr0 hF33_
   replace hB8 := hB8.fr0 hF33_
   replace hB32 := hB32.fr0 hF33_
   clear hF33_
   refine Ops_call (C_func bd78 rfl) rfl rfl ?_
   refine (keyed_any _ root _ _ _ [Bl.keyT root k, [UInt8.ofNat (k + 1)]] _ _ (by exact lr.symm) (Rd.ofBlk0 hB8) (by rw [lr]; decide) (RdLL.lit hB33 [Bl.keyT root k, [UInt8.ofNat (k + 1)]] [(A10, c10), (some ⟨b32, 0, none⟩, 1)] rfl rfl (by simp only [List.zip_cons_cons, List.zip_nil_right, List.forall_mem_cons]; exact ⟨hR10.fr0 hF10, Rd.ofBlk0 hB32, by simp⟩)) (by simp only [List.forall_mem_cons]; exact ⟨by rw [keyT_le]; split <;> omega, by simp, by simp⟩) (by simp) (hO.fr0 hF)).mono ?_
   rintro _ w34_ ⟨rfl, hF34_⟩
   replace hF := hF.fr0 hF34_
   replace hF10 := hF10.fr0 hF34_
   replace hQ9 := hQ9.fr0 hF34_
   replace hB8 := hB8.fr0 hF34_
   replace hB32 := hB32.fr0 hF34_
   replace hB33 := hB33.fr0 hF34_
   clear hF34_
   refine ⟨_, rfl, ?_⟩
   have hz12_hF := hF.size
   have hn12_hQ9 := hQ9.lt
   have hn12_hB8 := hB8.lt
   refine Ops_to (R_alloc zr96) rfl rfl ?_
   rintro _ w12_ ⟨b12, rfl, hb12, hB12, hF12_⟩
   have hl12 := hB12.lt
   replace hF := hF.fr0 hF12_
   replace hQ9 := hQ9.fr0 hF12_
   replace hB8 := hB8.fr0 hF12_
   clear hF12_
   refine Ops_to0 (R_storeN sz96 (by simp [keyed_len]) rfl rfl hB12 (by simp) allb) rfl ?_
   clear hB12
   rintro _ w16_ ⟨hB12, hF16_⟩
   replace hF := hF.then hF16_ (by simp only [mc_]; intro i_ hi_ hj_; omega)
   replace hQ9 := hQ9.fr hF16_ (own_notin hn12_hQ9 (by simp only [mc_]; omega))
   replace hB8 := hB8.fr hF16_ (by simp only [mc_]; omega)
   clear hF16_
   replace hB12 := hB12.to (cs' := (Bl.keyT root (k + 1)).map vb) (by rw [List.toList_toArray, Bl.keyT]; simp [over, keyed_len])
   refine Ops_nil ?_
   refine then_n (hK15_ _ _ ?_)
   clear hK15_ K15_
   refine W_keepB [2, 8, 9, 11, 12] fun B17 hB17_ => ?_
   simp only [e_, Nat.reduceAdd, Nat.reduceBEq] at hB17_
   subst hB17_
   refine W_seq_k fun K18_ hK18_ => ?_
   refine W_region [35, 10] rfl (Ops_step (R_sliceAll Tryd.underlying96 sz5 rfl) rfl rfl (Ops_step (R_assign rfl) rfl rfl ?_))
   refine Ops_nil ?_
   refine then_n (hK18_ _ _ ?_)
   clear hK18_ K18_
   refine W_region [36, 37, 38, 9] rfl (Ops_step (R_move rfl) rfl rfl (Ops_step (R_move rfl) rfl rfl ?_))
   have hof := hQ9.off
   have hno := hQ9.notin hB12 (by decide)
   have hno8 := hQ9.notin hB8 (by decide)
   have hzz := hF.size
   refine Ops_to (R_appendB el30 Tryd.underlying30 rfl rfl rfl (by rw [keyT_le, if_neg (by omega)]) hQ9 (Rd.ofBlk0 hB12) (by rw [keyO_len, keyT_le, if_neg (by omega)]; omega) (by omega) (by decide)) rfl rfl ?_
   clear hQ9
   rintro _ w38_ ⟨A9b, c9b, rfl, hQ9, hF38_⟩
   replace hF := hF.then hF38_ (fun i_ hi_ hj_ => absurd (hof i_ hi_) (by omega))
   replace hB8 := hB8.fr hF38_ hno8
   replace hB12 := hB12.fr hF38_ hno
   clear hF38_
   refine Ops_step (R_assign rfl) rfl rfl ?_
   refine Ops_nil ?_
   refine block_n ?_
   refine then_n (hK14_ _ _ ?_)
   clear hK14_ K14_
   refine W_region [27, 28, 11] rfl (Ops_step (R_move rfl) rfl rfl (Ops_step (R_add rfl rfl (add8 _ 1)) rfl rfl (Ops_step (R_assign rfl) rfl rfl ?_)))
   refine Ops_nil ?_
   exact ⟨255 - (k + 1), _, by omega, rfl, ⟨k + 1, _, _, _, _, by omega, by omega, by rw [keyO_succ, keyT_le (k := k + 1), if_neg (by omega), ofNat_succ], by rw [keyO_succ]; exact hQ9, Rd.ofBlk0 hB12, hB8, hF⟩, ⟨rfl, rfl, trivial⟩⟩
  ·
   have hkm : m ≤ 32 * k := by rw [keyO_len] at hc26; omega
   refine W_exit ?_
   refine then_exit ?_
   clear hK12_ K12_
   refine then_exit ?_
   refine block_exit ?_
   refine then_n (hK9_ _ _ ?_)
   clear hK9_ K9_
   refine W_keepB [2, 9] fun B19 hB19_ => ?_
   simp only [e_, Nat.reduceAdd, Nat.reduceBEq] at hB19_
   subst hB19_
   refine W_seq_k fun K20_ hK20_ => ?_
   refine W_region [39, 40, 41, 42, 43, 6, 7] rfl ?_
   have hz39_hF := hF.size
   have hz39_hF10 := hF10.size
   have hn39_hQ9 := hQ9.lt
   have hn39_hB8 := hB8.lt
   refine Ops_to (R_buildSlice0 el30) rfl rfl ?_
   rintro _ w39_ ⟨b39, rfl, hb39, hB39, hF39_⟩
   have hl39 := hB39.lt
   have hQ39 := OwnB.empty (B := w.heap.size) (by omega) hB39
   clear hB39
   replace hF := hF.fr0 hF39_
   replace hF10 := hF10.fr0 hF39_
   replace hQ9 := hQ9.fr0 hF39_
   replace hB8 := hB8.fr0 hF39_
   clear hF39_
   refine Ops_step (R_move rfl) rfl rfl (Ops_step (R_move rfl) rfl rfl ?_)
   refine Ops_step (R_sliceTo (h := m) Tryd.underlying30 sz5 rfl ⟨_, _, rfl, rfl⟩ rfl (by decide) (by have := Own.cap hQ9; omega) (by omega)) rfl rfl ?_
   have hof := hQ39.off
   have hzz := hF.size
   refine Ops_to (R_appendB el30 Tryd.underlying30 rfl rfl rfl (by rw [List.length_take, keyO_len]; omega) hQ39 (hQ9.rd.takeB m) (by simp; omega) (by omega) (by decide)) rfl rfl ?_
   clear hQ39 hQ9 hB8 hF10
   rintro _ w43_ ⟨A43, c43, rfl, hQ39, hF43_⟩
   replace hF := hF.then hF43_ (fun i_ hi_ hj_ => absurd (hof i_ hi_) (by omega))
   clear hF43_
   refine Ops_step (R_assign rfl) rfl rfl (Ops_step (R_assign rfl) rfl rfl ?_)
   refine Ops_nil ?_
   refine then_n (hK20_ _ _ ?_)
   clear hK20_ K20_
   refine W_keepB [6, 7] fun B21 hB21_ => ?_
   simp only [e_, Nat.reduceAdd, Nat.reduceBEq] at hB21_
   subst hB21_
   refine W_ret ?_
   refine ⟨_, ⟨_, _, rfl, rfl, ⟨_, _, rfl, rfl, rfl⟩⟩, ?_⟩
   refine ⟨A43, c43, ?_, ?_, hF⟩
   ·
    rw [List.length_take, keyO_len, Nat.min_eq_left hkm]; rfl
   ·
    rw [← er, keyO_take hk hkm]; exact hQ39
end Go.Proofs.YtbjmngacjdcddaaDoor

