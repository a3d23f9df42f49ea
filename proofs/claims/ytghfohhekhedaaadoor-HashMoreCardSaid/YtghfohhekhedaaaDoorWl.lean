/- What the walks of this seat show of Wl. -/
import Derived.Test.YtghfohhekhedaaaDoorWh
import Derived.Test.YtghfohhekhedaaaDoorProg
set_option linter.unusedVariables false
set_option linter.unusedSimpArgs false
namespace Go.Proofs.YtghfohhekhedaaaDoor
open Go Go.Sx

namespace TWl
theorem hm : Tryd.prog.follows .mixedOrders = true := by kernel_rfl
theorem a8_30 : Arr8 Tryd.prog 30 32 := ⟨_, Tryd.underlying30, by kernel_rfl, by kernel_rfl, Tryd.underlying5, by kernel_rfl⟩
theorem ag30 : aggB Tryd.prog 30 = some true := by kernel_rfl
theorem ag36 : aggB Tryd.prog 36 = some true := by kernel_rfl
theorem bd12 : bodied Tryd.prog 12 = true := by kernel_rfl
theorem bd13 : bodied Tryd.prog 13 = true := by kernel_rfl
theorem bd14 : bodied Tryd.prog 14 = true := by kernel_rfl
theorem bd15 : bodied Tryd.prog 15 = true := by kernel_rfl
theorem bd16 : bodied Tryd.prog 16 = true := by kernel_rfl
theorem bd17 : bodied Tryd.prog 17 = true := by kernel_rfl
theorem bd18 : bodied Tryd.prog 18 = true := by kernel_rfl
theorem el53 : Elem Tryd.prog 53 22 1 24 := Elem.of (by kernel_rfl)
theorem gg_30 : Tryd.prog.eqGuardType Tryd.prog.depth 30 = false := by kernel_rfl
theorem sz30 : sz Tryd.prog 30 = some 32 := by kernel_rfl
theorem sz36 : sz Tryd.prog 36 = some 8 := by kernel_rfl
theorem zr22 : zr Tryd.prog 22 = some ([.slice none 0 0]) := by kernel_rfl
theorem zr30 : zr Tryd.prog 30 = some (List.replicate 32 (.int .u8 0)) := by kernel_rfl
end TWl
set_option maxHeartbeats 4000000 in
theorem law_more (A0 : Option Addr) (c0 : Nat) (a : List UInt8) (A1 : Option Addr) (c1 : Nat) (b : List UInt8) (A2 : Option Addr) (c2 : Nat) (c : List UInt8) (w : World) (hR0 : Rd w A0 (a.map vb)) (hl0 : a.length ≤ 140737488351232) (hR1 : Rd w A1 (b.map vb)) (hl1 : b.length ≤ 140737488351232) (hR2 : Rd w A2 (c.map vb)) (hl2 : c.length ≤ 140737488351232) (hO : Rd w (some ⟨0, 0, none⟩) ordC) :
    Calls Tryd.prog 3 #[.slice A0 a.length c0, .slice A1 b.length c1, .slice A2 c.length c2] w fun e w2 => e = .returned (.bool true) ∧ Fr [] w w2 := by
  have hF := Fr.refl [] w
  have sO := hO.ltO
  refine calls_W 59 Tryd.func3 rfl Tryd.ntmps3 rfl [.tmp 6] rfl ?_
  refine W_seq_k fun K1_ hK1_ => ?_
  refine W_region [some 6] rfl ?_
  refine Ops_step (R_assign rfl) rfl rfl ?_
  refine Ops_nil ?_
  refine then_n (hK1_ _ _ ?_)
  clear hK1_ K1_
  refine W_seq_k fun K2_ hK2_ => ?_
  refine W_seq_k fun K3_ hK3_ => ?_
  refine W_region [some 10, some 11, some 12, some 13, some 14] rfl ?_
  refine Ops_step (R_move rfl) rfl rfl ?_
  refine Ops_step (R_move rfl) rfl rfl ?_
  refine Ops_step (R_move rfl) rfl rfl ?_
  have hz13_hF := hF.size
  refine Ops_to (R_buildSlice TWl.el53 TWl.zr22 (by decide) (by decide) rfl rfl) rfl rfl ?_
  rintro _ w13_ ⟨b13, rfl, hb13, hB13, hF13_⟩
  have hl13 := hB13.lt
  replace hF := hF.fr0 hF13_
  clear hF13_
  refine Ops_call (C_func TWl.bd12 rfl) rfl rfl ?_
  refine (long_any _ [a, b, c] _ _ (RdLL.lit hB13 [a, b, c] [(A0, c0), (A1, c1), (A2, c2)] rfl rfl (by simp only [List.zip_cons_cons, List.zip_nil_right, List.forall_mem_cons]; exact ⟨(hR0.fr0 hF), (hR1.fr0 hF), (hR2.fr0 hF), by simp⟩)) (by simp)).mono ?_
  rintro _ _ ⟨r14, rfl, hr14, rfl⟩
  refine ⟨_, rfl, ?_⟩
  refine Ops_nil ?_
  refine then_n (hK3_ _ _ ?_)
  clear hK3_ K3_
  refine W_cond rfl (fun hc14 => ?_) (fun hc14 => ?_)
  · refine W_seq_k fun K4_ hK4_ => ?_
    refine W_region [some 15, some 6] rfl ?_
    refine Ops_call (C_func TWl.bd13 rfl) rfl rfl ?_
    refine (awake_any _ (hO.fr0 hF)).mono ?_
    rintro _ w15_ ⟨rfl, hF15_⟩
    replace hF := hF.fr0 hF15_
    clear hF15_
    refine ⟨_, rfl, ?_⟩
    refine Ops_step (R_assign rfl) rfl rfl ?_
    refine Ops_nil ?_
    refine then_n (hK4_ _ _ ?_)
    clear hK4_ K4_
    refine W_keepB [6] fun B5 hB5_ => ?_
    simp only [pickE, lookE, putE, zipE, args0, Nat.reduceAdd, Nat.zero_add, List.cons_append, List.nil_append, Nat.reduceBEq, cond_true, cond_false] at hB5_
    subst hB5_
    refine W_ret ?_
    refine then_ret ?_
    clear hK2_ K2_
    refine ⟨_, ⟨_, _, rfl, rfl, rfl⟩, ?_⟩
    exact ⟨rfl, hF⟩
  · obtain ⟨_, hs_⟩ := hr14 hc14
    have hs0 : a.length ≤ 4096 := hs_ _ (by simp)
    have hs1 : b.length ≤ 4096 := hs_ _ (by simp)
    have hs2 : c.length ≤ 4096 := hs_ _ (by simp)
    refine W_skip ?_
    refine then_n (hK2_ _ _ ?_)
    clear hK2_ K2_
    refine W_keepB [0, 1, 2] fun B6 hB6_ => ?_
    simp only [pickE, lookE, putE, zipE, args0, Nat.reduceAdd, Nat.zero_add, List.cons_append, List.nil_append, Nat.reduceBEq, cond_true, cond_false] at hB6_
    subst hB6_
    refine W_seq_k fun K7_ hK7_ => ?_
    refine W_region [some 16, some 7] rfl ?_
    have hz16_hF := hF.size
    refine Ops_call (C_func TWl.bd14 rfl) rfl rfl ?_
    refine (new_any _).mono ?_
    rintro _ w16_ ⟨d16, rfl, hD16, hF16_⟩
    replace hF := hF.fr0 hF16_
    clear hF16_
    refine Exists.elim hD16.name fun B16 h_ => ?_
    clear hD16
    have hBe16 := h_.1
    have hD16 := h_.2
    clear h_
    have hge16 := hD16.ge
    refine ⟨_, rfl, ?_⟩
    refine Ops_step (R_assign rfl) rfl rfl ?_
    refine Ops_nil ?_
    refine then_n (hK7_ _ _ ?_)
    clear hK7_ K7_
    refine W_seq_k fun K8_ hK8_ => ?_
    refine W_region [some 17, some 18, some 19, some 20] rfl ?_
    refine Ops_step (R_move rfl) rfl rfl ?_
    refine Ops_step (R_move rfl) rfl rfl ?_
    have hz19_hF := hF.size
    have hn19_hD16 := hD16.lt
    refine Ops_to (R_buildSlice TWl.el53 TWl.zr22 (by decide) (by decide) rfl rfl) rfl rfl ?_
    rintro _ w19_ ⟨b19, rfl, hb19, hB19, hF19_⟩
    have hl19 := hB19.lt
    replace hF := hF.fr0 hF19_
    replace hD16 := hD16.fr0 hF19_
    clear hF19_
    have hs20_ := hF.size
    have hd20_ := hD16
    have hw20_ := hD16.lt
    refine Ops_call (C_func TWl.bd15 rfl) rfl rfl ?_
    refine (add_any _ _ _ _ [a] _ _ hD16 (RdL.lit hB19 (by omega) [a] [(A0, c0)] rfl rfl (by simp only [List.zip_cons_cons, List.zip_nil_right, List.forall_mem_cons]; exact ⟨(RdX.old hR0 hF (by omega)), by simp⟩)) (by simp only [List.forall_mem_cons]; refine ⟨by omega, by simp⟩) (by simp) (by omega) (hO.fr0 hF) (by omega)).mono ?_
    rintro _ w20_ ⟨rfl, hD16, hF20_⟩
    replace hF := hF.then hF20_ (by simp only [List.mem_singleton]; omega)
    replace hB19 := hB19.fr hF20_ (by simp only [List.mem_cons, List.not_mem_nil, or_false]; omega)
    clear hF20_
    refine ⟨_, rfl, ?_⟩
    refine Ops_nil ?_
    refine then_n (hK8_ _ _ ?_)
    clear hK8_ K8_
    refine W_seq_k fun K9_ hK9_ => ?_
    refine W_region [some 21, some 22, some 8, none] rfl ?_
    refine Ops_step (R_move rfl) rfl rfl ?_
    refine Ops_call (C_func TWl.bd16 rfl) rfl rfl ?_
    refine (sum_any _ _ _ _ hD16 (hO.fr0 hF)).mono ?_
    rintro _ w22_ ⟨rfl, hF22_⟩
    replace hF := hF.fr0 hF22_
    replace hD16 := hD16.fr0 hF22_
    clear hF22_
    refine ⟨_, rfl, ?_⟩
    have hz8_hF := hF.size
    have hn8_hD16 := hD16.lt
    refine Ops_to (R_alloc TWl.zr30) rfl rfl ?_
    rintro _ w8_ ⟨b8, rfl, hb8, hB8, hF8_⟩
    have hl8 := hB8.lt
    replace hF := hF.fr0 hF8_
    replace hD16 := hD16.fr0 hF8_
    clear hF8_
    have hb8_ := hB8
    refine Ops_to0 (R_storeN TWl.sz30 (by simp [sum_len, Bl.of]) rfl rfl hB8 (by simp) allb) rfl ?_
    clear hB8
    rintro _ w10_ ⟨hB8, hF10_⟩
    replace hF := hF.then hF10_ (by simp only [List.mem_cons, List.not_mem_nil, or_false]; intro i_ hi_ hj_; omega)
    replace hD16 := hD16.fr hF10_ (oneDig (by omega) hb8_ (by decide))
    clear hF10_
    replace hB8 := hB8.to (cs' := (Bl.sum (List.foldl Bl.add (Bl.begin_ []) [a])).map vb) (by rw [List.toList_toArray]; simp [over, sum_len, Bl.of])
    refine Ops_nil ?_
    refine then_n (hK9_ _ _ ?_)
    clear hK9_ K9_
    refine W_keepB [0, 1, 2, 7, 8] fun B11 hB11_ => ?_
    simp only [pickE, lookE, putE, zipE, args0, Nat.reduceAdd, Nat.zero_add, List.cons_append, List.nil_append, Nat.reduceBEq, cond_true, cond_false] at hB11_
    subst hB11_
    refine W_seq_k fun K12_ hK12_ => ?_
    refine W_region [some 23, some 24, some 9] rfl ?_
    refine Ops_step (R_move rfl) rfl rfl ?_
    have hn24_hB8 := hB8.lt
    have hz24_hF := hF.size
    have hn24_hD16 := hD16.lt
    have hn24_hB8 := hB8.lt
    refine Ops_call (C_func TWl.bd17 rfl) rfl rfl ?_
    refine (clone_any _ _ _ _ hD16).mono ?_
    rintro _ w24_ ⟨d24, rfl, hge24, hD24, hF24_⟩
    replace hF := hF.fr0 hF24_
    replace hD16 := hD16.fr0 hF24_
    replace hB8 := hB8.fr0 hF24_
    clear hF24_
    refine ⟨_, rfl, ?_⟩
    refine Ops_step (R_assign rfl) rfl rfl ?_
    refine Ops_nil ?_
    refine then_n (hK12_ _ _ ?_)
    clear hK12_ K12_
    refine W_seq_k fun K13_ hK13_ => ?_
    refine W_region [some 25, some 26, some 27, some 28] rfl ?_
    refine Ops_step (R_move rfl) rfl rfl ?_
    refine Ops_step (R_move rfl) rfl rfl ?_
    have hz27_hF := hF.size
    have hn27_hD16 := hD16.lt
    have hn27_hB8 := hB8.lt
    have hn27_hD24 := hD24.lt
    refine Ops_to (R_buildSlice TWl.el53 TWl.zr22 (by decide) (by decide) rfl rfl) rfl rfl ?_
    rintro _ w27_ ⟨b27, rfl, hb27, hB27, hF27_⟩
    have hl27 := hB27.lt
    replace hF := hF.fr0 hF27_
    replace hD16 := hD16.fr0 hF27_
    replace hB8 := hB8.fr0 hF27_
    replace hD24 := hD24.fr0 hF27_
    clear hF27_
    have hs28_ := hF.size
    have hd28_ := hD16
    have hw28_ := hD16.lt
    refine Ops_call (C_func TWl.bd15 rfl) rfl rfl ?_
    refine (add_any _ _ _ _ [b] _ _ hD16 (RdL.lit hB27 (by omega) [b] [(A1, c1)] rfl rfl (by simp only [List.zip_cons_cons, List.zip_nil_right, List.forall_mem_cons]; exact ⟨(RdX.old hR1 hF (by omega)), by simp⟩)) (by simp only [List.forall_mem_cons]; refine ⟨by omega, by simp⟩) (by simp) (by omega) (hO.fr0 hF) (by omega)).mono ?_
    rintro _ w28_ ⟨rfl, hD16, hF28_⟩
    replace hF := hF.then hF28_ (by simp only [List.mem_singleton]; omega)
    replace hB8 := hB8.fr hF28_ (by simp only [List.mem_singleton]; omega)
    replace hD24 := hD24.fr hF28_ (digDig (by omega) hd28_)
    replace hB27 := hB27.fr hF28_ (by simp only [List.mem_cons, List.not_mem_nil, or_false]; omega)
    clear hF28_
    refine ⟨_, rfl, ?_⟩
    refine Ops_nil ?_
    refine then_n (hK13_ _ _ ?_)
    clear hK13_ K13_
    refine W_keepB [0, 1, 2, 7, 8, 9] fun B14 hB14_ => ?_
    simp only [pickE, lookE, putE, zipE, args0, Nat.reduceAdd, Nat.zero_add, List.cons_append, List.nil_append, Nat.reduceBEq, cond_true, cond_false] at hB14_
    subst hB14_
    refine W_seq_k fun K15_ hK15_ => ?_
    refine W_region [some 29, some 30, some 31, some 32] rfl ?_
    refine Ops_step (R_move rfl) rfl rfl ?_
    refine Ops_step (R_move rfl) rfl rfl ?_
    have hz31_hF := hF.size
    have hn31_hD16 := hD16.lt
    have hn31_hB8 := hB8.lt
    have hn31_hD24 := hD24.lt
    refine Ops_to (R_buildSlice TWl.el53 TWl.zr22 (by decide) (by decide) rfl rfl) rfl rfl ?_
    rintro _ w31_ ⟨b31, rfl, hb31, hB31, hF31_⟩
    have hl31 := hB31.lt
    replace hF := hF.fr0 hF31_
    replace hD16 := hD16.fr0 hF31_
    replace hB8 := hB8.fr0 hF31_
    replace hD24 := hD24.fr0 hF31_
    clear hF31_
    have hs32_ := hF.size
    have hd32_ := hD24
    have hw32_ := hD24.lt
    refine Ops_call (C_func TWl.bd15 rfl) rfl rfl ?_
    refine (add_any _ _ _ _ [c] _ _ hD24 (RdL.lit hB31 (by omega) [c] [(A2, c2)] rfl rfl (by simp only [List.zip_cons_cons, List.zip_nil_right, List.forall_mem_cons]; exact ⟨(RdX.old hR2 hF (by omega)), by simp⟩)) (by simp only [List.forall_mem_cons]; refine ⟨by omega, by simp⟩) (by simp) (by omega) (hO.fr0 hF) (by omega)).mono ?_
    rintro _ w32_ ⟨rfl, hD24, hF32_⟩
    replace hF := hF.then hF32_ (by simp only [List.mem_singleton]; omega)
    replace hD16 := hD16.fr hF32_ (digDig (by omega) hd32_)
    replace hB8 := hB8.fr hF32_ (by simp only [List.mem_singleton]; omega)
    replace hB31 := hB31.fr hF32_ (by simp only [List.mem_cons, List.not_mem_nil, or_false]; omega)
    clear hF32_
    refine ⟨_, rfl, ?_⟩
    refine Ops_nil ?_
    refine then_n (hK15_ _ _ ?_)
    clear hK15_ K15_
    refine W_seq_k fun K16_ hK16_ => ?_
    refine W_drawS [some 33, some 34, some 35, some 36, some 37, some 38, some 39, some 40, some 41, some 42, some 43, some 44, some 45, some 46, some 47, some 48, some 49, some 50, some 51, some 52, some 53, some 54, some 55, some 56, some 57, some 58, some 6] (.q 0 (.q 1 (.l 2 (.l 3 (.q 4 (.q 5 (.q 6 (.q 8 (.q 9 (.two 7 (.l 10 (.l 11 (.q 12 (.q 13 (.q 14 (.q 15 (.q 17 (.q 18 (.two 16 (.l 19 (.l 20 (.q 21 (.q 22 (.q 23 (.l 24 (.q 25 (.q 26 .done)))))))) 19 (.l 16 (.l 20 (.q 21 (.q 22 (.q 23 (.l 24 (.q 25 (.q 26 .done))))))))))))))))) 10 (.l 7 (.l 11 (.q 12 (.q 13 (.q 14 (.q 15 (.q 17 (.q 18 (.two 16 (.l 19 (.l 20 (.q 21 (.q 22 (.q 23 (.l 24 (.q 25 (.q 26 .done)))))))) 19 (.l 16 (.l 20 (.q 21 (.q 22 (.q 23 (.l 24 (.q 25 (.q 26 .done))))))))))))))))))))))))))) TWl.hm rfl (by kernel_rfl) fun ops17_ w17_ hops17_ hF17_ => ?_
    replace hF := hF.fr0 hF17_
    replace hD16 := hD16.fr0 hF17_
    replace hB8 := hB8.fr0 hF17_
    replace hD24 := hD24.fr0 hF17_
    clear hF17_
    refine HS_loadW TWl.ag30 TWl.sz30 rfl hB8 (by simp [sum_len]) rfl rfl ?_
    refine HS_pure (fun w_ => R_move rfl) rfl rfl ?_
    have hz35_hF := hF.size
    have hn35_hD16 := hD16.lt
    have hn35_hB8 := hB8.lt
    have hn35_hD24 := hD24.lt
    refine HS_to [0] _ rfl (by rw [hops17_]; kernel_rfl) (R_buildSlice TWl.el53 TWl.zr22 (by decide) (by decide) rfl rfl) rfl rfl ?_
    rintro _ w35_ ⟨b35, rfl, hb35, hB35, hF35_⟩
    have hl35 := hB35.lt
    replace hF := hF.fr0 hF35_
    replace hD16 := hD16.fr0 hF35_
    replace hB8 := hB8.fr0 hF35_
    replace hD24 := hD24.fr0 hF35_
    clear hF35_
    refine ⟨⟨hB8, trivial⟩, ?_⟩
    refine HS_call [0] _ rfl (by rw [hops17_]; kernel_rfl) (C_func TWl.bd18 rfl) rfl rfl ?_
    refine (of_any _ [a] _ _ (RdLL.lit hB35 [a] [(A0, c0)] rfl rfl (by simp only [List.zip_cons_cons, List.zip_nil_right, List.forall_mem_cons]; exact ⟨(hR0.fr0 hF), by simp⟩)) (by simp only [List.forall_mem_cons]; refine ⟨by omega, by simp⟩) (by simp) (hO.fr0 hF)).mono ?_
    rintro _ w36_ ⟨rfl, hF36_⟩
    replace hF := hF.fr0 hF36_
    replace hD16 := hD16.fr0 hF36_
    replace hB8 := hB8.fr0 hF36_
    replace hD24 := hD24.fr0 hF36_
    replace hB35 := hB35.fr0 hF36_
    clear hF36_
    refine ⟨_, rfl, ⟨hB8, trivial⟩, ?_⟩
    refine HS_pure (fun w_ => R_eqlArr8 TWl.a8_30 rfl rfl TWl.gg_30 (sum_len _) (by rw [Bl.of]; exact sum_len _)) rfl rfl ?_
    refine HS_pure (fun w_ => R_move rfl) rfl rfl ?_
    refine HS_known (b := true) 38 rfl (decide_eq_true rfl) ?_
    refine HS_pure (fun w_ => R_move rfl) rfl rfl ?_
    refine HS_pure (fun w_ => R_move rfl) rfl rfl ?_
    refine HS_pure (fun w_ => R_move rfl) rfl rfl ?_
    refine HS_two ?_ ?_
    · refine Stp_call [] _ rfl (by rw [hops17_]; kernel_rfl) (C_func TWl.bd16 rfl) rfl rfl ?_
      refine (sum_any _ _ _ _ hD16 (hO.fr0 hF)).mono ?_
      rintro _ w40_ ⟨rfl, hF40_⟩
      replace hF := hF.fr0 hF40_
      replace hD16 := hD16.fr0 hF40_
      replace hB8 := hB8.fr0 hF40_
      replace hD24 := hD24.fr0 hF40_
      clear hF40_
      refine ⟨_, rfl, trivial, ?_⟩
      have hz43_hF := hF.size
      have hn43_hD16 := hD16.lt
      have hn43_hB8 := hB8.lt
      have hn43_hD24 := hD24.lt
      refine HS_to [] _ rfl (by rw [hops17_]; kernel_rfl) (R_buildSlice TWl.el53 TWl.zr22 (by decide) (by decide) rfl rfl) rfl rfl ?_
      rintro _ w43_ ⟨b43, rfl, hb43, hB43, hF43_⟩
      have hl43 := hB43.lt
      replace hF := hF.fr0 hF43_
      replace hD16 := hD16.fr0 hF43_
      replace hB8 := hB8.fr0 hF43_
      replace hD24 := hD24.fr0 hF43_
      clear hF43_
      refine ⟨trivial, ?_⟩
      refine HS_call [] _ rfl (by rw [hops17_]; kernel_rfl) (C_func TWl.bd18 rfl) rfl rfl ?_
      refine (of_any _ [a, b] _ _ (RdLL.lit hB43 [a, b] [(A0, c0), (A1, c1)] rfl rfl (by simp only [List.zip_cons_cons, List.zip_nil_right, List.forall_mem_cons]; exact ⟨(hR0.fr0 hF), (hR1.fr0 hF), by simp⟩)) (by simp only [List.forall_mem_cons]; refine ⟨by omega, by omega, by simp⟩) (by simp) (hO.fr0 hF)).mono ?_
      rintro _ w44_ ⟨rfl, hF44_⟩
      replace hF := hF.fr0 hF44_
      replace hD16 := hD16.fr0 hF44_
      replace hB8 := hB8.fr0 hF44_
      replace hD24 := hD24.fr0 hF44_
      replace hB43 := hB43.fr0 hF44_
      clear hF44_
      refine ⟨_, rfl, trivial, ?_⟩
      refine HS_pure (fun w_ => R_eqlArr8 TWl.a8_30 rfl rfl TWl.gg_30 (sum_len _) (by rw [Bl.of]; exact sum_len _)) rfl rfl ?_
      refine HS_pure (fun w_ => R_pick_true rfl rfl) rfl rfl ?_
      refine HS_pure (fun w_ => R_move rfl) rfl rfl ?_
      refine HS_known (b := true) 47 rfl (decide_eq_true rfl) ?_
      refine HS_pure (fun w_ => R_move rfl) rfl rfl ?_
      refine HS_pure (fun w_ => R_move rfl) rfl rfl ?_
      refine HS_pure (fun w_ => R_move rfl) rfl rfl ?_
      refine HS_two ?_ ?_
      · refine Stp_call [] _ rfl (by rw [hops17_]; kernel_rfl) (C_func TWl.bd16 rfl) rfl rfl ?_
        refine (sum_any _ _ _ _ hD24 (hO.fr0 hF)).mono ?_
        rintro _ w49_ ⟨rfl, hF49_⟩
        replace hF := hF.fr0 hF49_
        replace hD16 := hD16.fr0 hF49_
        replace hB8 := hB8.fr0 hF49_
        replace hD24 := hD24.fr0 hF49_
        clear hF49_
        refine ⟨_, rfl, trivial, ?_⟩
        have hz52_hF := hF.size
        have hn52_hD16 := hD16.lt
        have hn52_hB8 := hB8.lt
        have hn52_hD24 := hD24.lt
        refine HS_to [] _ rfl (by rw [hops17_]; kernel_rfl) (R_buildSlice TWl.el53 TWl.zr22 (by decide) (by decide) rfl rfl) rfl rfl ?_
        rintro _ w52_ ⟨b52, rfl, hb52, hB52, hF52_⟩
        have hl52 := hB52.lt
        replace hF := hF.fr0 hF52_
        replace hD16 := hD16.fr0 hF52_
        replace hB8 := hB8.fr0 hF52_
        replace hD24 := hD24.fr0 hF52_
        clear hF52_
        refine ⟨trivial, ?_⟩
        refine HS_call [] _ rfl (by rw [hops17_]; kernel_rfl) (C_func TWl.bd18 rfl) rfl rfl ?_
        refine (of_any _ [a, c] _ _ (RdLL.lit hB52 [a, c] [(A0, c0), (A2, c2)] rfl rfl (by simp only [List.zip_cons_cons, List.zip_nil_right, List.forall_mem_cons]; exact ⟨(hR0.fr0 hF), (hR2.fr0 hF), by simp⟩)) (by simp only [List.forall_mem_cons]; refine ⟨by omega, by omega, by simp⟩) (by simp) (hO.fr0 hF)).mono ?_
        rintro _ w53_ ⟨rfl, hF53_⟩
        replace hF := hF.fr0 hF53_
        replace hD16 := hD16.fr0 hF53_
        replace hB8 := hB8.fr0 hF53_
        replace hD24 := hD24.fr0 hF53_
        replace hB52 := hB52.fr0 hF53_
        clear hF53_
        refine ⟨_, rfl, trivial, ?_⟩
        refine HS_pure (fun w_ => R_eqlArr8 TWl.a8_30 rfl rfl TWl.gg_30 (sum_len _) (by rw [Bl.of]; exact sum_len _)) rfl rfl ?_
        refine HS_pure (fun w_ => R_pick_true rfl rfl) rfl rfl ?_
        refine HS_pure (fun w_ => R_move rfl) rfl rfl ?_
        refine HS_known (b := true) 56 rfl (decide_eq_true rfl) ?_
        refine HS_call [] _ rfl (by rw [hops17_]; kernel_rfl) (C_func TWl.bd13 rfl) rfl rfl ?_
        refine (awake_any _ (hO.fr0 hF)).mono ?_
        rintro _ w57_ ⟨rfl, hF57_⟩
        replace hF := hF.fr0 hF57_
        replace hD16 := hD16.fr0 hF57_
        replace hB8 := hB8.fr0 hF57_
        replace hD24 := hD24.fr0 hF57_
        clear hF57_
        refine ⟨_, rfl, trivial, ?_⟩
        refine HS_pure (fun w_ => R_pick_true rfl rfl) rfl rfl ?_
        refine HS_pure (fun w_ => R_assign rfl) rfl rfl ?_
        refine HS_nil ?_
        clear hops17_
        refine then_n (hK16_ _ _ ?_)
        clear hK16_ K16_
        refine W_keepB [6] fun B18 hB18_ => ?_
        simp only [pickE, lookE, putE, zipE, args0, Nat.reduceAdd, Nat.zero_add, List.cons_append, List.nil_append, Nat.reduceBEq, cond_true, cond_false] at hB18_
        subst hB18_
        refine W_ret ?_
        refine ⟨_, ⟨_, _, rfl, rfl, rfl⟩, ?_⟩
        exact ⟨rfl, hF⟩
      · have hz52_hF := hF.size
        have hn52_hD16 := hD16.lt
        have hn52_hB8 := hB8.lt
        have hn52_hD24 := hD24.lt
        refine Stp_to [] _ rfl (by rw [hops17_]; kernel_rfl) (R_buildSlice TWl.el53 TWl.zr22 (by decide) (by decide) rfl rfl) rfl rfl ?_
        rintro _ w52_ ⟨b52, rfl, hb52, hB52, hF52_⟩
        have hl52 := hB52.lt
        replace hF := hF.fr0 hF52_
        replace hD16 := hD16.fr0 hF52_
        replace hB8 := hB8.fr0 hF52_
        replace hD24 := hD24.fr0 hF52_
        clear hF52_
        refine ⟨trivial, ?_⟩
        refine HS_call [] _ rfl (by rw [hops17_]; kernel_rfl) (C_func TWl.bd16 rfl) rfl rfl ?_
        refine (sum_any _ _ _ _ hD24 (hO.fr0 hF)).mono ?_
        rintro _ w49_ ⟨rfl, hF49_⟩
        replace hF := hF.fr0 hF49_
        replace hD16 := hD16.fr0 hF49_
        replace hB8 := hB8.fr0 hF49_
        replace hD24 := hD24.fr0 hF49_
        replace hB52 := hB52.fr0 hF49_
        clear hF49_
        refine ⟨_, rfl, trivial, ?_⟩
        refine HS_call [] _ rfl (by rw [hops17_]; kernel_rfl) (C_func TWl.bd18 rfl) rfl rfl ?_
        refine (of_any _ [a, c] _ _ (RdLL.lit hB52 [a, c] [(A0, c0), (A2, c2)] rfl rfl (by simp only [List.zip_cons_cons, List.zip_nil_right, List.forall_mem_cons]; exact ⟨(hR0.fr0 hF), (hR2.fr0 hF), by simp⟩)) (by simp only [List.forall_mem_cons]; refine ⟨by omega, by omega, by simp⟩) (by simp) (hO.fr0 hF)).mono ?_
        rintro _ w53_ ⟨rfl, hF53_⟩
        replace hF := hF.fr0 hF53_
        replace hD16 := hD16.fr0 hF53_
        replace hB8 := hB8.fr0 hF53_
        replace hD24 := hD24.fr0 hF53_
        replace hB52 := hB52.fr0 hF53_
        clear hF53_
        refine ⟨_, rfl, trivial, ?_⟩
        refine HS_pure (fun w_ => R_eqlArr8 TWl.a8_30 rfl rfl TWl.gg_30 (sum_len _) (by rw [Bl.of]; exact sum_len _)) rfl rfl ?_
        refine HS_pure (fun w_ => R_pick_true rfl rfl) rfl rfl ?_
        refine HS_pure (fun w_ => R_move rfl) rfl rfl ?_
        refine HS_known (b := true) 56 rfl (decide_eq_true rfl) ?_
        refine HS_call [] _ rfl (by rw [hops17_]; kernel_rfl) (C_func TWl.bd13 rfl) rfl rfl ?_
        refine (awake_any _ (hO.fr0 hF)).mono ?_
        rintro _ w57_ ⟨rfl, hF57_⟩
        replace hF := hF.fr0 hF57_
        replace hD16 := hD16.fr0 hF57_
        replace hB8 := hB8.fr0 hF57_
        replace hD24 := hD24.fr0 hF57_
        clear hF57_
        refine ⟨_, rfl, trivial, ?_⟩
        refine HS_pure (fun w_ => R_pick_true rfl rfl) rfl rfl ?_
        refine HS_pure (fun w_ => R_assign rfl) rfl rfl ?_
        refine HS_nil ?_
        clear hops17_
        refine then_n (hK16_ _ _ ?_)
        clear hK16_ K16_
        refine W_keepB [6] fun B19 hB19_ => ?_
        simp only [pickE, lookE, putE, zipE, args0, Nat.reduceAdd, Nat.zero_add, List.cons_append, List.nil_append, Nat.reduceBEq, cond_true, cond_false] at hB19_
        subst hB19_
        refine W_ret ?_
        refine ⟨_, ⟨_, _, rfl, rfl, rfl⟩, ?_⟩
        exact ⟨rfl, hF⟩
    · have hz43_hF := hF.size
      have hn43_hD16 := hD16.lt
      have hn43_hB8 := hB8.lt
      have hn43_hD24 := hD24.lt
      refine Stp_to [] _ rfl (by rw [hops17_]; kernel_rfl) (R_buildSlice TWl.el53 TWl.zr22 (by decide) (by decide) rfl rfl) rfl rfl ?_
      rintro _ w43_ ⟨b43, rfl, hb43, hB43, hF43_⟩
      have hl43 := hB43.lt
      replace hF := hF.fr0 hF43_
      replace hD16 := hD16.fr0 hF43_
      replace hB8 := hB8.fr0 hF43_
      replace hD24 := hD24.fr0 hF43_
      clear hF43_
      refine ⟨trivial, ?_⟩
      refine HS_call [] _ rfl (by rw [hops17_]; kernel_rfl) (C_func TWl.bd16 rfl) rfl rfl ?_
      refine (sum_any _ _ _ _ hD16 (hO.fr0 hF)).mono ?_
      rintro _ w40_ ⟨rfl, hF40_⟩
      replace hF := hF.fr0 hF40_
      replace hD16 := hD16.fr0 hF40_
      replace hB8 := hB8.fr0 hF40_
      replace hD24 := hD24.fr0 hF40_
      replace hB43 := hB43.fr0 hF40_
      clear hF40_
      refine ⟨_, rfl, trivial, ?_⟩
      refine HS_call [] _ rfl (by rw [hops17_]; kernel_rfl) (C_func TWl.bd18 rfl) rfl rfl ?_
      refine (of_any _ [a, b] _ _ (RdLL.lit hB43 [a, b] [(A0, c0), (A1, c1)] rfl rfl (by simp only [List.zip_cons_cons, List.zip_nil_right, List.forall_mem_cons]; exact ⟨(hR0.fr0 hF), (hR1.fr0 hF), by simp⟩)) (by simp only [List.forall_mem_cons]; refine ⟨by omega, by omega, by simp⟩) (by simp) (hO.fr0 hF)).mono ?_
      rintro _ w44_ ⟨rfl, hF44_⟩
      replace hF := hF.fr0 hF44_
      replace hD16 := hD16.fr0 hF44_
      replace hB8 := hB8.fr0 hF44_
      replace hD24 := hD24.fr0 hF44_
      replace hB43 := hB43.fr0 hF44_
      clear hF44_
      refine ⟨_, rfl, trivial, ?_⟩
      refine HS_pure (fun w_ => R_eqlArr8 TWl.a8_30 rfl rfl TWl.gg_30 (sum_len _) (by rw [Bl.of]; exact sum_len _)) rfl rfl ?_
      refine HS_pure (fun w_ => R_pick_true rfl rfl) rfl rfl ?_
      refine HS_pure (fun w_ => R_move rfl) rfl rfl ?_
      refine HS_known (b := true) 47 rfl (decide_eq_true rfl) ?_
      refine HS_pure (fun w_ => R_move rfl) rfl rfl ?_
      refine HS_pure (fun w_ => R_move rfl) rfl rfl ?_
      refine HS_pure (fun w_ => R_move rfl) rfl rfl ?_
      refine HS_two ?_ ?_
      · refine Stp_call [] _ rfl (by rw [hops17_]; kernel_rfl) (C_func TWl.bd16 rfl) rfl rfl ?_
        refine (sum_any _ _ _ _ hD24 (hO.fr0 hF)).mono ?_
        rintro _ w49_ ⟨rfl, hF49_⟩
        replace hF := hF.fr0 hF49_
        replace hD16 := hD16.fr0 hF49_
        replace hB8 := hB8.fr0 hF49_
        replace hD24 := hD24.fr0 hF49_
        clear hF49_
        refine ⟨_, rfl, trivial, ?_⟩
        have hz52_hF := hF.size
        have hn52_hD16 := hD16.lt
        have hn52_hB8 := hB8.lt
        have hn52_hD24 := hD24.lt
        refine HS_to [] _ rfl (by rw [hops17_]; kernel_rfl) (R_buildSlice TWl.el53 TWl.zr22 (by decide) (by decide) rfl rfl) rfl rfl ?_
        rintro _ w52_ ⟨b52, rfl, hb52, hB52, hF52_⟩
        have hl52 := hB52.lt
        replace hF := hF.fr0 hF52_
        replace hD16 := hD16.fr0 hF52_
        replace hB8 := hB8.fr0 hF52_
        replace hD24 := hD24.fr0 hF52_
        clear hF52_
        refine ⟨trivial, ?_⟩
        refine HS_call [] _ rfl (by rw [hops17_]; kernel_rfl) (C_func TWl.bd18 rfl) rfl rfl ?_
        refine (of_any _ [a, c] _ _ (RdLL.lit hB52 [a, c] [(A0, c0), (A2, c2)] rfl rfl (by simp only [List.zip_cons_cons, List.zip_nil_right, List.forall_mem_cons]; exact ⟨(hR0.fr0 hF), (hR2.fr0 hF), by simp⟩)) (by simp only [List.forall_mem_cons]; refine ⟨by omega, by omega, by simp⟩) (by simp) (hO.fr0 hF)).mono ?_
        rintro _ w53_ ⟨rfl, hF53_⟩
        replace hF := hF.fr0 hF53_
        replace hD16 := hD16.fr0 hF53_
        replace hB8 := hB8.fr0 hF53_
        replace hD24 := hD24.fr0 hF53_
        replace hB52 := hB52.fr0 hF53_
        clear hF53_
        refine ⟨_, rfl, trivial, ?_⟩
        refine HS_pure (fun w_ => R_eqlArr8 TWl.a8_30 rfl rfl TWl.gg_30 (sum_len _) (by rw [Bl.of]; exact sum_len _)) rfl rfl ?_
        refine HS_pure (fun w_ => R_pick_true rfl rfl) rfl rfl ?_
        refine HS_pure (fun w_ => R_move rfl) rfl rfl ?_
        refine HS_known (b := true) 56 rfl (decide_eq_true rfl) ?_
        refine HS_call [] _ rfl (by rw [hops17_]; kernel_rfl) (C_func TWl.bd13 rfl) rfl rfl ?_
        refine (awake_any _ (hO.fr0 hF)).mono ?_
        rintro _ w57_ ⟨rfl, hF57_⟩
        replace hF := hF.fr0 hF57_
        replace hD16 := hD16.fr0 hF57_
        replace hB8 := hB8.fr0 hF57_
        replace hD24 := hD24.fr0 hF57_
        clear hF57_
        refine ⟨_, rfl, trivial, ?_⟩
        refine HS_pure (fun w_ => R_pick_true rfl rfl) rfl rfl ?_
        refine HS_pure (fun w_ => R_assign rfl) rfl rfl ?_
        refine HS_nil ?_
        clear hops17_
        refine then_n (hK16_ _ _ ?_)
        clear hK16_ K16_
        refine W_keepB [6] fun B20 hB20_ => ?_
        simp only [pickE, lookE, putE, zipE, args0, Nat.reduceAdd, Nat.zero_add, List.cons_append, List.nil_append, Nat.reduceBEq, cond_true, cond_false] at hB20_
        subst hB20_
        refine W_ret ?_
        refine ⟨_, ⟨_, _, rfl, rfl, rfl⟩, ?_⟩
        exact ⟨rfl, hF⟩
      · have hz52_hF := hF.size
        have hn52_hD16 := hD16.lt
        have hn52_hB8 := hB8.lt
        have hn52_hD24 := hD24.lt
        refine Stp_to [] _ rfl (by rw [hops17_]; kernel_rfl) (R_buildSlice TWl.el53 TWl.zr22 (by decide) (by decide) rfl rfl) rfl rfl ?_
        rintro _ w52_ ⟨b52, rfl, hb52, hB52, hF52_⟩
        have hl52 := hB52.lt
        replace hF := hF.fr0 hF52_
        replace hD16 := hD16.fr0 hF52_
        replace hB8 := hB8.fr0 hF52_
        replace hD24 := hD24.fr0 hF52_
        clear hF52_
        refine ⟨trivial, ?_⟩
        refine HS_call [] _ rfl (by rw [hops17_]; kernel_rfl) (C_func TWl.bd16 rfl) rfl rfl ?_
        refine (sum_any _ _ _ _ hD24 (hO.fr0 hF)).mono ?_
        rintro _ w49_ ⟨rfl, hF49_⟩
        replace hF := hF.fr0 hF49_
        replace hD16 := hD16.fr0 hF49_
        replace hB8 := hB8.fr0 hF49_
        replace hD24 := hD24.fr0 hF49_
        replace hB52 := hB52.fr0 hF49_
        clear hF49_
        refine ⟨_, rfl, trivial, ?_⟩
        refine HS_call [] _ rfl (by rw [hops17_]; kernel_rfl) (C_func TWl.bd18 rfl) rfl rfl ?_
        refine (of_any _ [a, c] _ _ (RdLL.lit hB52 [a, c] [(A0, c0), (A2, c2)] rfl rfl (by simp only [List.zip_cons_cons, List.zip_nil_right, List.forall_mem_cons]; exact ⟨(hR0.fr0 hF), (hR2.fr0 hF), by simp⟩)) (by simp only [List.forall_mem_cons]; refine ⟨by omega, by omega, by simp⟩) (by simp) (hO.fr0 hF)).mono ?_
        rintro _ w53_ ⟨rfl, hF53_⟩
        replace hF := hF.fr0 hF53_
        replace hD16 := hD16.fr0 hF53_
        replace hB8 := hB8.fr0 hF53_
        replace hD24 := hD24.fr0 hF53_
        replace hB52 := hB52.fr0 hF53_
        clear hF53_
        refine ⟨_, rfl, trivial, ?_⟩
        refine HS_pure (fun w_ => R_eqlArr8 TWl.a8_30 rfl rfl TWl.gg_30 (sum_len _) (by rw [Bl.of]; exact sum_len _)) rfl rfl ?_
        refine HS_pure (fun w_ => R_pick_true rfl rfl) rfl rfl ?_
        refine HS_pure (fun w_ => R_move rfl) rfl rfl ?_
        refine HS_known (b := true) 56 rfl (decide_eq_true rfl) ?_
        refine HS_call [] _ rfl (by rw [hops17_]; kernel_rfl) (C_func TWl.bd13 rfl) rfl rfl ?_
        refine (awake_any _ (hO.fr0 hF)).mono ?_
        rintro _ w57_ ⟨rfl, hF57_⟩
        replace hF := hF.fr0 hF57_
        replace hD16 := hD16.fr0 hF57_
        replace hB8 := hB8.fr0 hF57_
        replace hD24 := hD24.fr0 hF57_
        clear hF57_
        refine ⟨_, rfl, trivial, ?_⟩
        refine HS_pure (fun w_ => R_pick_true rfl rfl) rfl rfl ?_
        refine HS_pure (fun w_ => R_assign rfl) rfl rfl ?_
        refine HS_nil ?_
        clear hops17_
        refine then_n (hK16_ _ _ ?_)
        clear hK16_ K16_
        refine W_keepB [6] fun B21 hB21_ => ?_
        simp only [pickE, lookE, putE, zipE, args0, Nat.reduceAdd, Nat.zero_add, List.cons_append, List.nil_append, Nat.reduceBEq, cond_true, cond_false] at hB21_
        subst hB21_
        refine W_ret ?_
        refine ⟨_, ⟨_, _, rfl, rfl, rfl⟩, ?_⟩
        exact ⟨rfl, hF⟩

end Go.Proofs.YtghfohhekhedaaaDoor
