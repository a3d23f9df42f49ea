/- What is shown of the program on the way to the law. -/
import Derived.Test.YtbjmngacjdcddaaDoorZW5
import Derived.Test.YtbjmngacjdcddaaDoorProg
set_option linter.unusedVariables false
set_option linter.unusedSimpArgs false
set_option maxHeartbeats 4000000
namespace Go.Proofs.YtbjmngacjdcddaaDoor
open Go Go.Sx

namespace TFhc
theorem hm : Tryd.prog.follows .mixedOrders = true := by kernel_rfl
theorem ag125 : aggB Tryd.prog 125 = some true := by kernel_rfl
theorem ag126 : aggB Tryd.prog 126 = some true := by kernel_rfl
theorem ag96 : aggB Tryd.prog 96 = some true := by kernel_rfl
theorem bd90 : bodied Tryd.prog 90 = true := by kernel_rfl
theorem bd91 : bodied Tryd.prog 91 = true := by kernel_rfl
theorem bd92 : bodied Tryd.prog 92 = true := by kernel_rfl
theorem bd93 : bodied Tryd.prog 93 = true := by kernel_rfl
theorem el99 : Elem Tryd.prog 99 30 1 24 := Elem.of (by kernel_rfl)
theorem sz125 : sz Tryd.prog 125 = some 8 := by kernel_rfl
theorem sz126 : sz Tryd.prog 126 = some 8 := by kernel_rfl
theorem sz5 : sz Tryd.prog 5 = some 1 := by kernel_rfl
theorem sz96 : sz Tryd.prog 96 = some 32 := by kernel_rfl
theorem zr30 : zr Tryd.prog 30 = some ([.slice none 0 0]) := by kernel_rfl
theorem zr96 : zr Tryd.prog 96 = some (List.replicate 32 (.int .u8 0)) := by kernel_rfl
end TFhc
open TFhc

theorem begin_n (K : Option Addr) (key : List UInt8) (n kc : Nat) (w : World) (hn : n = key.length) (hl : key.length ≤ 32) (hk : Rd w K (key.map vb)) :
  Calls Tryd.prog 91 #[.slice K n kc] w fun e w2 => ∃ d, e = .returned (.pointer (some ⟨d, 0, none⟩)) ∧ Dig w2 w.heap.size d (Bl.begin_ key) ∧ Fr [] w w2 := by
 subst hn; exact begin_any K key hl kc w hk
theorem keyed_any (K : Option Addr) (key : List UInt8) (kc : Nat) (n : Nat) (LA : Option Addr) (L : List (List UInt8)) (lc : Nat) (w : World) (hn : n = key.length) (hk : Rd w K (key.map vb)) (hkl : key.length ≤ 1099511627776) (hL : RdLL w LA L) (hlen : ∀ bs ∈ L, bs.length ≤ 1099511627776) (hm : L.length ≤ 1099511627776) (hO : Rd w (some ⟨2, 0, none⟩) ordC) :
  Calls Tryd.prog 78 #[.slice K n kc, .slice LA L.length lc] w fun e w2 => e = .returned (.agg ((Bl.keyed key L).map vb).toArray) ∧ Fr [] w w2 := by
 subst hn
 have hF := Fr.refl [] w
 have sO : 2 < w.heap.size := hO.ltO
 refine calls_W 26 Tryd.func78 rfl Tryd.ntmps78 rfl [.cell 4 96] rfl ?_
 refine W_seq_k fun K1_ hK1_ => ?_
 refine W_region [4] rfl ?_
 have hz4_hF := hF.size
 refine Ops_to (R_alloc zr96) rfl rfl ?_
 rintro _ w4_ ⟨b4, rfl, hb4, hB4, hF4_⟩
 have hl4 := hB4.lt
 replace hF := hF.fr0 hF4_
 clear hF4_
 refine Ops_nil ?_
 refine then_n (hK1_ _ _ ?_)
 clear hK1_ K1_
 refine W_seq_k fun K2_ hK2_ => ?_
 refine W_seq_k fun K3_ hK3_ => ?_
 refine W_region [7, 8, 9, 10, 11, 12, 13, 14] rfl (Ops_step (R_move rfl) rfl rfl (Ops_step (R_len Tryd.underlying30 rfl rfl) rfl rfl (Ops_step (R_lss rfl rfl) rfl rfl (Ops_step (R_move rfl) rfl rfl ?_))))
 refine Ops_split 10 rfl (fun hg10 => ?_) (fun hg10 => ?_)
 ·
  have hfin := keyed_out (L := L) (show key.length < 1 ∨ 32 < key.length by omega)
  refine Ops_pass rfl rfl (Ops_pass rfl rfl (Ops_pass rfl rfl (Ops_step (R_pick_true rfl rfl) rfl rfl ?_)))
  refine Ops_nil ?_
  refine then_n (hK3_ _ _ ?_)
  clear hK3_ K3_
  refine W_keepB [0, 1, 4, 14] fun B4 hB4_ => ?_
  simp only [e_, Nat.reduceAdd, Nat.reduceBEq] at hB4_
  subst hB4_
  refine W_cond_true rfl ?_
  refine W_seq_k fun K5_ hK5_ => ?_
  refine W_region [15, 16, 17, 5, none] rfl (Ops_step (R_move rfl) rfl rfl ?_)
  have hz16_hF := hF.size
  have hn16_hB4 := hB4.lt
  refine Ops_to (R_buildSlice el99 zr30 (by decide) (by decide) rfl rfl) rfl rfl ?_
  rintro _ w16_ ⟨b16, rfl, hb16, hB16, hF16_⟩
  have hl16 := hB16.lt
  replace hF := hF.fr0 hF16_
  replace hB4 := hB4.fr0 hF16_
  clear hF16_
  refine Ops_call (C_func bd90 rfl) rfl rfl ?_
  refine (of_any _ [key] _ _ (RdLL.lit hB16 [key] [(K, kc)] rfl rfl (by simp only [List.zip_cons_cons, List.zip_nil_right, List.forall_mem_cons]; exact ⟨(hk.fr0 hF), by simp⟩)) (by simp; omega) (by simp) (hO.fr0 hF)).mono ?_
  rintro _ w17_ ⟨rfl, hF17_⟩
  replace hF := hF.fr0 hF17_
  replace hB4 := hB4.fr0 hF17_
  replace hB16 := hB16.fr0 hF17_
  clear hF17_
  refine ⟨_, rfl, ?_⟩
  have hz5_hF := hF.size
  have hn5_hB4 := hB4.lt
  refine Ops_to (R_alloc zr96) rfl rfl ?_
  rintro _ w5_ ⟨b5, rfl, hb5, hB5, hF5_⟩
  have hl5 := hB5.lt
  replace hF := hF.fr0 hF5_
  replace hB4 := hB4.fr0 hF5_
  clear hF5_
  refine Ops_to0 (R_storeN sz96 (by simp [sum_len, Bl.of]) rfl rfl hB5 (by simp) allb) rfl ?_
  clear hB5
  rintro _ w6_ ⟨hB5, hF6_⟩
  replace hF := hF.then hF6_ (by simp only [mc_]; intro i_ hi_ hj_; omega)
  replace hB4 := hB4.fr hF6_ (by simp only [mc_]; omega)
  clear hF6_
  replace hB5 := hB5.to (cs' := (Bl.of [key]).map vb) (by rw [List.toList_toArray]; simp [over, sum_len, Bl.of])
  refine Ops_nil ?_
  refine then_n (hK5_ _ _ ?_)
  clear hK5_ K5_
  refine W_region [18, 0] rfl (Ops_step (R_sliceAll Tryd.underlying96 sz5 rfl) rfl rfl (Ops_step (R_assign rfl) rfl rfl ?_))
  refine Ops_nil ?_
  refine then_n (hK2_ _ _ ?_)
  clear hK2_ K2_
  refine W_keepB [0, 1, 4] fun B7 hB7_ => ?_
  simp only [e_, Nat.reduceAdd, Nat.reduceBEq] at hB7_
  subst hB7_
  refine W_seq_k fun K8_ hK8_ => ?_
  refine W_region [19, 20, 6] rfl (Ops_step (R_move rfl) rfl rfl ?_)
  have hz20_hF := hF.size
  have hn20_hB4 := hB4.lt
  have hn20_hB5 := hB5.lt
  refine Ops_call (C_func bd91 rfl) rfl rfl ?_
  refine (begin_n _ _ _ _ _ (by first | rfl | (rw [Bl.of, sum_len])) (by first | omega | (rw [Bl.of, sum_len]; decide)) (Rd.ofBlk0 hB5)).mono ?_
  rintro _ w20_ ⟨d20, rfl, hD20, hF20_⟩
  replace hF := hF.fr0 hF20_
  replace hB4 := hB4.fr0 hF20_
  replace hB5 := hB5.fr0 hF20_
  clear hF20_
  refine Exists.elim hD20.name fun B20 h_ => ?_
  clear hD20
  have hBe20 := h_.1
  have hD20 := h_.2
  clear h_
  have hge20 := hD20.ge
  refine ⟨_, rfl, ?_⟩
  refine Ops_step (R_assign rfl) rfl rfl ?_
  refine Ops_nil ?_
  refine then_n (hK8_ _ _ ?_)
  clear hK8_ K8_
  refine W_seq_k fun K9_ hK9_ => ?_
  refine W_region [21, 22, 23] rfl (Ops_step (R_move rfl) rfl rfl (Ops_step (R_move rfl) rfl rfl ?_))
  have hz23 := hF.size
  have hzd := hD20.lt
  refine Ops_call (C_func bd92 rfl) rfl rfl ?_
  refine (add_any _ _ _ _ L _ _ hD20 (hL.old hF (by omega)) hlen hm (by omega) (hO.fr0 hF) (by omega)).mono ?_
  rintro _ w23_ ⟨rfl, hD20, hF23_⟩
  replace hF := hF.then hF23_ (by simp only [List.mem_singleton]; omega)
  replace hB4 := hB4.fr hF23_ (by simp only [List.mem_singleton]; omega)
  replace hB5 := hB5.fr hF23_ (by simp only [List.mem_singleton]; omega)
  clear hF23_
  refine ⟨_, rfl, ?_⟩
  refine Ops_nil ?_
  refine then_n (hK9_ _ _ ?_)
  clear hK9_ K9_
  refine W_keepB [4, 6] fun B10 hB10_ => ?_
  simp only [e_, Nat.reduceAdd, Nat.reduceBEq] at hB10_
  subst hB10_
  refine W_seq_k fun K11_ hK11_ => ?_
  refine W_region [24, 25, none] rfl (Ops_step (R_move rfl) rfl rfl ?_)
  refine Ops_call (C_func bd93 rfl) rfl rfl ?_
  refine (sum_any _ _ _ _ hD20 (hO.fr0 hF)).mono ?_
  rintro _ w25_ ⟨rfl, hF25_⟩
  replace hF := hF.fr0 hF25_
  replace hB4 := hB4.fr0 hF25_
  replace hB5 := hB5.fr0 hF25_
  replace hD20 := hD20.fr0 hF25_
  clear hF25_
  refine ⟨_, rfl, ?_⟩
  have hb4_ := hB4
  refine Ops_to0 (R_storeN sz96 (by simp [sum_len]) rfl rfl hB4 (by simp) allb) rfl ?_
  clear hB4
  rintro _ w12_ ⟨hB4, hF12_⟩
  replace hF := hF.then hF12_ (by simp only [mc_]; intro i_ hi_ hj_; omega)
  replace hB5 := hB5.fr hF12_ (by simp only [List.mem_singleton]; omega)
  replace hD20 := hD20.fr hF12_ (oneDig (by omega) hb4_ (by decide))
  clear hF12_
  replace hB4 := hB4.to (cs' := (Bl.keyed key L).map vb) (by rw [List.toList_toArray, hfin]; simp [over, sum_len])
  refine Ops_nil ?_
  refine then_n (hK11_ _ _ ?_)
  clear hK11_ K11_
  refine W_ret ?_
  refine ⟨_, ⟨_, _, _, rfl, rfl, run_loadVarN ag96 sz96 hB4 (by simp [hfin, sum_len]), rfl⟩, ?_⟩
  exact ⟨by simp [hfin, sum_len, List.take_of_length_le, tupled], hF⟩
 ·
  refine Ops_step (R_move rfl) rfl rfl (Ops_step (R_len Tryd.underlying30 rfl rfl) rfl rfl (Ops_step (R_gtr rfl rfl) rfl rfl (Ops_step (R_pick_false rfl rfl) rfl rfl ?_)))
  refine Ops_nil ?_
  refine then_n (hK3_ _ _ ?_)
  clear hK3_ K3_
  refine W_keepB [0, 1, 4, 14] fun B13 hB13_ => ?_
  simp only [e_, Nat.reduceAdd, Nat.reduceBEq] at hB13_
  subst hB13_
  refine W_if rfl (fun hc14 => ?_) (fun hc14 => ?_)
  ·
   have hfin := keyed_out (L := L) (show key.length < 1 ∨ 32 < key.length by omega)
   refine W_seq_k fun K14_ hK14_ => ?_
   refine W_region [15, 16, 17, 5, none] rfl (Ops_step (R_move rfl) rfl rfl ?_)
   have hz16_hF := hF.size
   have hn16_hB4 := hB4.lt
   refine Ops_to (R_buildSlice el99 zr30 (by decide) (by decide) rfl rfl) rfl rfl ?_
   rintro _ w16_ ⟨b16, rfl, hb16, hB16, hF16_⟩
   have hl16 := hB16.lt
   replace hF := hF.fr0 hF16_
   replace hB4 := hB4.fr0 hF16_
   clear hF16_
   refine Ops_call (C_func bd90 rfl) rfl rfl ?_
   refine (of_any _ [key] _ _ (RdLL.lit hB16 [key] [(K, kc)] rfl rfl (by simp only [List.zip_cons_cons, List.zip_nil_right, List.forall_mem_cons]; exact ⟨(hk.fr0 hF), by simp⟩)) (by simp; omega) (by simp) (hO.fr0 hF)).mono ?_
   rintro _ w17_ ⟨rfl, hF17_⟩
   replace hF := hF.fr0 hF17_
   replace hB4 := hB4.fr0 hF17_
   replace hB16 := hB16.fr0 hF17_
   clear hF17_
   refine ⟨_, rfl, ?_⟩
   have hz5_hF := hF.size
   have hn5_hB4 := hB4.lt
   refine Ops_to (R_alloc zr96) rfl rfl ?_
   rintro _ w5_ ⟨b5, rfl, hb5, hB5, hF5_⟩
   have hl5 := hB5.lt
   replace hF := hF.fr0 hF5_
   replace hB4 := hB4.fr0 hF5_
   clear hF5_
   refine Ops_to0 (R_storeN sz96 (by simp [sum_len, Bl.of]) rfl rfl hB5 (by simp) allb) rfl ?_
   clear hB5
   rintro _ w15_ ⟨hB5, hF15_⟩
   replace hF := hF.then hF15_ (by simp only [mc_]; intro i_ hi_ hj_; omega)
   replace hB4 := hB4.fr hF15_ (by simp only [mc_]; omega)
   clear hF15_
   replace hB5 := hB5.to (cs' := (Bl.of [key]).map vb) (by rw [List.toList_toArray]; simp [over, sum_len, Bl.of])
   refine Ops_nil ?_
   refine then_n (hK14_ _ _ ?_)
   clear hK14_ K14_
   refine W_region [18, 0] rfl (Ops_step (R_sliceAll Tryd.underlying96 sz5 rfl) rfl rfl (Ops_step (R_assign rfl) rfl rfl ?_))
   refine Ops_nil ?_
   refine then_n (hK2_ _ _ ?_)
   clear hK2_ K2_
   refine W_keepB [0, 1, 4] fun B16 hB16_ => ?_
   simp only [e_, Nat.reduceAdd, Nat.reduceBEq] at hB16_
   subst hB16_
   refine W_seq_k fun K17_ hK17_ => ?_
   refine W_region [19, 20, 6] rfl (Ops_step (R_move rfl) rfl rfl ?_)
   have hz20_hF := hF.size
   have hn20_hB4 := hB4.lt
   have hn20_hB5 := hB5.lt
   refine Ops_call (C_func bd91 rfl) rfl rfl ?_
   refine (begin_n _ _ _ _ _ (by first | rfl | (rw [Bl.of, sum_len])) (by first | omega | (rw [Bl.of, sum_len]; decide)) (Rd.ofBlk0 hB5)).mono ?_
   rintro _ w20_ ⟨d20, rfl, hD20, hF20_⟩
   replace hF := hF.fr0 hF20_
   replace hB4 := hB4.fr0 hF20_
   replace hB5 := hB5.fr0 hF20_
   clear hF20_
   refine Exists.elim hD20.name fun B20 h_ => ?_
   clear hD20
   have hBe20 := h_.1
   have hD20 := h_.2
   clear h_
   have hge20 := hD20.ge
   refine ⟨_, rfl, ?_⟩
   refine Ops_step (R_assign rfl) rfl rfl ?_
   refine Ops_nil ?_
   refine then_n (hK17_ _ _ ?_)
   clear hK17_ K17_
   refine W_seq_k fun K18_ hK18_ => ?_
   refine W_region [21, 22, 23] rfl (Ops_step (R_move rfl) rfl rfl (Ops_step (R_move rfl) rfl rfl ?_))
   have hz23 := hF.size
   have hzd := hD20.lt
   refine Ops_call (C_func bd92 rfl) rfl rfl ?_
   refine (add_any _ _ _ _ L _ _ hD20 (hL.old hF (by omega)) hlen hm (by omega) (hO.fr0 hF) (by omega)).mono ?_
   rintro _ w23_ ⟨rfl, hD20, hF23_⟩
   replace hF := hF.then hF23_ (by simp only [List.mem_singleton]; omega)
   replace hB4 := hB4.fr hF23_ (by simp only [List.mem_singleton]; omega)
   replace hB5 := hB5.fr hF23_ (by simp only [List.mem_singleton]; omega)
   clear hF23_
   refine ⟨_, rfl, ?_⟩
   refine Ops_nil ?_
   refine then_n (hK18_ _ _ ?_)
   clear hK18_ K18_
   refine W_keepB [4, 6] fun B19 hB19_ => ?_
   simp only [e_, Nat.reduceAdd, Nat.reduceBEq] at hB19_
   subst hB19_
   refine W_seq_k fun K20_ hK20_ => ?_
   refine W_region [24, 25, none] rfl (Ops_step (R_move rfl) rfl rfl ?_)
   refine Ops_call (C_func bd93 rfl) rfl rfl ?_
   refine (sum_any _ _ _ _ hD20 (hO.fr0 hF)).mono ?_
   rintro _ w25_ ⟨rfl, hF25_⟩
   replace hF := hF.fr0 hF25_
   replace hB4 := hB4.fr0 hF25_
   replace hB5 := hB5.fr0 hF25_
   replace hD20 := hD20.fr0 hF25_
   clear hF25_
   refine ⟨_, rfl, ?_⟩
   have hb4_ := hB4
   refine Ops_to0 (R_storeN sz96 (by simp [sum_len]) rfl rfl hB4 (by simp) allb) rfl ?_
   clear hB4
   rintro _ w21_ ⟨hB4, hF21_⟩
   replace hF := hF.then hF21_ (by simp only [mc_]; intro i_ hi_ hj_; omega)
   replace hB5 := hB5.fr hF21_ (by simp only [List.mem_singleton]; omega)
   replace hD20 := hD20.fr hF21_ (oneDig (by omega) hb4_ (by decide))
   clear hF21_
   replace hB4 := hB4.to (cs' := (Bl.keyed key L).map vb) (by rw [List.toList_toArray, hfin]; simp [over, sum_len])
   refine Ops_nil ?_
   refine then_n (hK20_ _ _ ?_)
   clear hK20_ K20_
   refine W_ret ?_
   refine ⟨_, ⟨_, _, _, rfl, rfl, run_loadVarN ag96 sz96 hB4 (by simp [hfin, sum_len]), rfl⟩, ?_⟩
   exact ⟨by simp [hfin, sum_len, List.take_of_length_le, tupled], hF⟩
  ·
   have hfin := keyed_in (L := L) (show ¬ (key.length < 1 ∨ 32 < key.length) by omega)
   refine W_skip ?_
   refine then_n (hK2_ _ _ ?_)
   clear hK2_ K2_
   refine W_seq_k fun K22_ hK22_ => ?_
   refine W_region [19, 20, 6] rfl (Ops_step (R_move rfl) rfl rfl ?_)
   have hz20_hF := hF.size
   have hn20_hB4 := hB4.lt
   refine Ops_call (C_func bd91 rfl) rfl rfl ?_
   refine (begin_n _ _ _ _ _ (by first | rfl | (rw [Bl.of, sum_len])) (by first | omega | (rw [Bl.of, sum_len]; decide)) (hk.fr0 hF)).mono ?_
   rintro _ w20_ ⟨d20, rfl, hD20, hF20_⟩
   replace hF := hF.fr0 hF20_
   replace hB4 := hB4.fr0 hF20_
   clear hF20_
   refine Exists.elim hD20.name fun B20 h_ => ?_
   clear hD20
   have hBe20 := h_.1
   have hD20 := h_.2
   clear h_
   have hge20 := hD20.ge
   refine ⟨_, rfl, ?_⟩
   refine Ops_step (R_assign rfl) rfl rfl ?_
   refine Ops_nil ?_
   refine then_n (hK22_ _ _ ?_)
   clear hK22_ K22_
   refine W_seq_k fun K23_ hK23_ => ?_
   refine W_region [21, 22, 23] rfl (Ops_step (R_move rfl) rfl rfl (Ops_step (R_move rfl) rfl rfl ?_))
   have hz23 := hF.size
   have hzd := hD20.lt
   refine Ops_call (C_func bd92 rfl) rfl rfl ?_
   refine (add_any _ _ _ _ L _ _ hD20 (hL.old hF (by omega)) hlen hm (by omega) (hO.fr0 hF) (by omega)).mono ?_
   rintro _ w23_ ⟨rfl, hD20, hF23_⟩
   replace hF := hF.then hF23_ (by simp only [List.mem_singleton]; omega)
   replace hB4 := hB4.fr hF23_ (by simp only [List.mem_singleton]; omega)
   clear hF23_
   refine ⟨_, rfl, ?_⟩
   refine Ops_nil ?_
   refine then_n (hK23_ _ _ ?_)
   clear hK23_ K23_
   refine W_keepB [4, 6] fun B24 hB24_ => ?_
   simp only [e_, Nat.reduceAdd, Nat.reduceBEq] at hB24_
   subst hB24_
   refine W_seq_k fun K25_ hK25_ => ?_
   refine W_region [24, 25, none] rfl (Ops_step (R_move rfl) rfl rfl ?_)
   refine Ops_call (C_func bd93 rfl) rfl rfl ?_
   refine (sum_any _ _ _ _ hD20 (hO.fr0 hF)).mono ?_
   rintro _ w25_ ⟨rfl, hF25_⟩
   replace hF := hF.fr0 hF25_
   replace hB4 := hB4.fr0 hF25_
   replace hD20 := hD20.fr0 hF25_
   clear hF25_
   refine ⟨_, rfl, ?_⟩
   have hb4_ := hB4
   refine Ops_to0 (R_storeN sz96 (by simp [sum_len]) rfl rfl hB4 (by simp) allb) rfl ?_
   clear hB4
   rintro _ w26_ ⟨hB4, hF26_⟩
   replace hF := hF.then hF26_ (by simp only [mc_]; intro i_ hi_ hj_; omega)
   replace hD20 := hD20.fr hF26_ (oneDig (by omega) hb4_ (by decide))
   clear hF26_
   replace hB4 := hB4.to (cs' := (Bl.keyed key L).map vb) (by rw [List.toList_toArray, hfin]; simp [over, sum_len])
   refine Ops_nil ?_
   refine then_n (hK25_ _ _ ?_)
   clear hK25_ K25_
   refine W_ret ?_
   refine ⟨_, ⟨_, _, _, rfl, rfl, run_loadVarN ag96 sz96 hB4 (by simp [hfin, sum_len]), rfl⟩, ?_⟩
   exact ⟨by simp [hfin, sum_len, List.take_of_length_le, tupled], hF⟩

end Go.Proofs.YtbjmngacjdcddaaDoor

