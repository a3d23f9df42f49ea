/- What the walks of this seat show of Wp. -/
import Derived.Test.YtghfohhekhedaaaDoorWo
import Derived.Test.YtghfohhekhedaaaDoorProg
set_option linter.unusedVariables false
set_option linter.unusedSimpArgs false
namespace Go.Proofs.YtghfohhekhedaaaDoor
open Go Go.Sx

namespace TWp
theorem hm : Tryd.prog.follows .mixedOrders = true := by kernel_rfl
theorem ag36 : aggB Tryd.prog 36 = some true := by kernel_rfl
theorem bd12 : bodied Tryd.prog 12 = true := by kernel_rfl
theorem bd13 : bodied Tryd.prog 13 = true := by kernel_rfl
theorem bd26 : bodied Tryd.prog 26 = true := by kernel_rfl
theorem bd28 : bodied Tryd.prog 28 = true := by kernel_rfl
theorem el53 : Elem Tryd.prog 53 22 1 24 := Elem.of (by kernel_rfl)
theorem sz36 : sz Tryd.prog 36 = some 8 := by kernel_rfl
theorem zr22 : zr Tryd.prog 22 = some ([.slice none 0 0]) := by kernel_rfl
end TWp
set_option maxHeartbeats 4000000 in
theorem law_fronts (A0 : Option Addr) (c0 : Nat) (a : List UInt8) (A1 : Option Addr) (c1 : Nat) (b : List UInt8) (n m : Int) (w : World) (hR0 : Rd w A0 (a.map vb)) (hl0 : a.length ≤ 140737488351232) (hR1 : Rd w A1 (b.map vb)) (hl1 : b.length ≤ 140737488351232) (wf0 : (Lit.int .i64 n).wf = true) (wf1 : (Lit.int .i64 m).wf = true) (hO : Rd w (some ⟨0, 0, none⟩) ordC) :
    Calls Tryd.prog 10 #[.slice A0 a.length c0, .slice A1 b.length c1, vi n, vi m] w fun e w2 => e = .returned (.bool true) ∧ Fr [] w w2 := by
  have hF := Fr.refl [] w
  have sO := hO.ltO
  refine calls_W 66 Tryd.func10 rfl Tryd.ntmps10 rfl [.tmp 8] rfl ?_
  refine W_seq_k fun K1_ hK1_ => ?_
  refine W_region [some 8] rfl ?_
  refine Ops_step (R_assign rfl) rfl rfl ?_
  refine Ops_nil ?_
  refine then_n (hK1_ _ _ ?_)
  clear hK1_ K1_
  refine W_seq_k fun K2_ hK2_ => ?_
  refine W_seq_k fun K3_ hK3_ => ?_
  refine W_region [some 13, some 14, some 15, some 16] rfl ?_
  refine Ops_step (R_move rfl) rfl rfl ?_
  refine Ops_step (R_move rfl) rfl rfl ?_
  have hz15_hF := hF.size
  refine Ops_to (R_buildSlice TWp.el53 TWp.zr22 (by decide) (by decide) rfl rfl) rfl rfl ?_
  rintro _ w15_ ⟨b15, rfl, hb15, hB15, hF15_⟩
  have hl15 := hB15.lt
  replace hF := hF.fr0 hF15_
  clear hF15_
  refine Ops_call (C_func TWp.bd12 rfl) rfl rfl ?_
  refine (long_any _ [a, b] _ _ (RdLL.lit hB15 [a, b] [(A0, c0), (A1, c1)] rfl rfl (by simp only [List.zip_cons_cons, List.zip_nil_right, List.forall_mem_cons]; exact ⟨(hR0.fr0 hF), (hR1.fr0 hF), by simp⟩)) (by simp)).mono ?_
  rintro _ _ ⟨r16, rfl, hr16, rfl⟩
  refine ⟨_, rfl, ?_⟩
  refine Ops_nil ?_
  refine then_n (hK3_ _ _ ?_)
  clear hK3_ K3_
  refine W_cond rfl (fun hc16 => ?_) (fun hc16 => ?_)
  · refine W_seq_k fun K4_ hK4_ => ?_
    refine W_region [some 17, some 8] rfl ?_
    refine Ops_call (C_func TWp.bd13 rfl) rfl rfl ?_
    refine (awake_any _ (hO.fr0 hF)).mono ?_
    rintro _ w17_ ⟨rfl, hF17_⟩
    replace hF := hF.fr0 hF17_
    clear hF17_
    refine ⟨_, rfl, ?_⟩
    refine Ops_step (R_assign rfl) rfl rfl ?_
    refine Ops_nil ?_
    refine then_n (hK4_ _ _ ?_)
    clear hK4_ K4_
    refine W_keepB [8] fun B5 hB5_ => ?_
    simp only [pickE, lookE, putE, zipE, args0, Nat.reduceAdd, Nat.zero_add, List.cons_append, List.nil_append, Nat.reduceBEq, cond_true, cond_false] at hB5_
    subst hB5_
    refine W_ret ?_
    refine then_ret ?_
    clear hK2_ K2_
    refine ⟨_, ⟨_, _, rfl, rfl, rfl⟩, ?_⟩
    exact ⟨rfl, hF⟩
  · obtain ⟨_, hs_⟩ := hr16 hc16
    have hs0 : a.length ≤ 4096 := hs_ _ (by simp)
    have hs1 : b.length ≤ 4096 := hs_ _ (by simp)
    refine W_skip ?_
    refine then_n (hK2_ _ _ ?_)
    clear hK2_ K2_
    refine W_seq_k fun K6_ hK6_ => ?_
    refine W_region [some 18, some 19, some 20, some 21, some 22, some 23, some 24, some 25, some 2, some 3] rfl ?_
    refine Ops_step (R_move rfl) rfl rfl ?_
    refine Ops_step (R_conv Tryd.underlying3 Tryd.underlying51 rfl (cI_64 _)) rfl rfl ?_
    refine Ops_step (R_rem rfl rfl (by decide) (remc _ 500)) rfl rfl ?_
    refine named ((BitVec.ofInt 64 n).toNat % 500) fun n20 en20 => ?_
    rw [← en20]
    have hn20 : n20 < 500 := by rw [en20]; exact Nat.mod_lt _ (by decide)
    refine Ops_step (R_conv Tryd.underlying51 Tryd.underlying3 rfl (wI (by omega) (by omega))) rfl rfl ?_
    refine Ops_step (R_move rfl) rfl rfl ?_
    refine Ops_step (R_conv Tryd.underlying3 Tryd.underlying51 rfl (cI_64 _)) rfl rfl ?_
    refine Ops_step (R_rem rfl rfl (by decide) (remc _ 500)) rfl rfl ?_
    refine named ((BitVec.ofInt 64 m).toNat % 500) fun n24 en24 => ?_
    rw [← en24]
    have hn24 : n24 < 500 := by rw [en24]; exact Nat.mod_lt _ (by decide)
    refine Ops_step (R_conv Tryd.underlying51 Tryd.underlying3 rfl (wI (by omega) (by omega))) rfl rfl ?_
    refine Ops_step (R_assign rfl) rfl rfl ?_
    refine Ops_step (R_assign rfl) rfl rfl ?_
    refine Ops_nil ?_
    refine then_n (hK6_ _ _ ?_)
    clear hK6_ K6_
    refine W_keepB [0, 1, 2, 3] fun B7 hB7_ => ?_
    simp only [pickE, lookE, putE, zipE, args0, Nat.reduceAdd, Nat.zero_add, List.cons_append, List.nil_append, Nat.reduceBEq, cond_true, cond_false] at hB7_
    subst hB7_
    refine W_seq_k fun K8_ hK8_ => ?_
    refine W_region [some 27, some 28, some 29, some 30, some 31, some 32, some 26, some 33, some 34, some 9, some 10] rfl ?_
    refine Ops_step (R_move rfl) rfl rfl ?_
    refine Ops_step (R_move rfl) rfl rfl ?_
    refine Ops_step (R_move rfl) rfl rfl ?_
    refine Ops_step (R_move rfl) rfl rfl ?_
    refine Ops_step (R_min rfl rfl (show _ = ((min n20 n24 : Nat) : Int) by omega)) rfl rfl ?_
    have hz32 := hF.size
    refine Ops_call (C_func TWp.bd26 rfl) rfl rfl ?_
    refine (key_any _ _ _ _ _ _ (min n20 n24) _ (by omega) (hR0.fr0 hF) (by omega) (hR1.fr0 hF) (by omega) (hO.fr0 hF)).mono ?_
    rintro _ w32_ ⟨A32, c32, rfl, hQ32, hF32_⟩
    replace hF := hF.fr0 hF32_
    clear hF32_
    replace hQ32 := hQ32.le hz32
    refine ⟨_, rfl, ?_⟩
    refine Ops_step (R_move rfl) rfl rfl ?_
    refine Ops_step (R_extract rfl rfl) rfl rfl ?_
    refine Ops_step (R_extract rfl rfl) rfl rfl ?_
    refine Ops_step (R_assign rfl) rfl rfl ?_
    refine Ops_step (R_assign rfl) rfl rfl ?_
    refine Ops_nil ?_
    refine then_n (hK8_ _ _ ?_)
    clear hK8_ K8_
    refine W_keepB [0, 1, 2, 3, 9, 10] fun B9 hB9_ => ?_
    simp only [pickE, lookE, putE, zipE, args0, Nat.reduceAdd, Nat.zero_add, List.cons_append, List.nil_append, Nat.reduceBEq, cond_true, cond_false] at hB9_
    subst hB9_
    refine W_seq_k fun K10_ hK10_ => ?_
    refine W_region [some 36, some 37, some 38, some 39, some 40, some 41, some 35, some 42, some 43, some 11, some 12] rfl ?_
    refine Ops_step (R_move rfl) rfl rfl ?_
    refine Ops_step (R_move rfl) rfl rfl ?_
    refine Ops_step (R_move rfl) rfl rfl ?_
    refine Ops_step (R_move rfl) rfl rfl ?_
    refine Ops_step (R_max rfl rfl (show _ = ((max n20 n24 : Nat) : Int) by omega)) rfl rfl ?_
    have hz41 := hF.size
    refine Ops_call (C_func TWp.bd26 rfl) rfl rfl ?_
    refine (key_any _ _ _ _ _ _ (max n20 n24) _ (by omega) (hR0.fr0 hF) (by omega) (hR1.fr0 hF) (by omega) (hO.fr0 hF)).mono ?_
    rintro _ w41_ ⟨A41, c41, rfl, hQ41, hF41_⟩
    replace hF := hF.fr0 hF41_
    replace hQ32 := hQ32.fr0 hF41_
    clear hF41_
    replace hQ41 := hQ41.le hz41
    refine ⟨_, rfl, ?_⟩
    refine Ops_step (R_move rfl) rfl rfl ?_
    refine Ops_step (R_extract rfl rfl) rfl rfl ?_
    refine Ops_step (R_extract rfl rfl) rfl rfl ?_
    refine Ops_step (R_assign rfl) rfl rfl ?_
    refine Ops_step (R_assign rfl) rfl rfl ?_
    refine Ops_nil ?_
    refine then_n (hK10_ _ _ ?_)
    clear hK10_ K10_
    refine W_keepB [2, 3, 9, 10, 11, 12] fun B11 hB11_ => ?_
    simp only [pickE, lookE, putE, zipE, args0, Nat.reduceAdd, Nat.zero_add, List.cons_append, List.nil_append, Nat.reduceBEq, cond_true, cond_false] at hB11_
    subst hB11_
    refine W_seq_k fun K12_ hK12_ => ?_
    refine W_region [some 44, some 45, some 46, some 47, some 48, some 49, some 50, some 51, some 52, some 53, some 54, some 55, some 56, some 57, some 58, some 59, some 60, some 61, some 62, some 63, some 64, some 65, some 8] rfl ?_
    refine Ops_step (R_move rfl) rfl rfl ?_
    refine Ops_step (R_eql rfl rfl) rfl rfl ?_
    refine Ops_step (R_move rfl) rfl rfl ?_
    refine Ops_known (b := true) 46 rfl (decide_eq_true rfl) ?_
    refine Ops_step (R_move rfl) rfl rfl ?_
    refine Ops_step (R_eql rfl rfl) rfl rfl ?_
    refine Ops_step (R_pick_true rfl rfl) rfl rfl ?_
    refine Ops_step (R_move rfl) rfl rfl ?_
    refine Ops_known (b := true) 50 rfl (decide_eq_true rfl) ?_
    refine Ops_step (R_move rfl) rfl rfl ?_
    refine Ops_step (R_move rfl) rfl rfl ?_
    refine Ops_call (C_func TWp.bd28 rfl) rfl rfl ?_
    refine (hpre_any _ _ _ _ _ _ _ _ _ (by rw [List.length_take, keyO_len]; omega) (by rw [List.length_take, keyO_len]; omega) (Own.cap hQ41) hQ41.rd hQ32.rd).mono ?_
    rintro _ _ ⟨rfl, rfl⟩
    refine ⟨_, rfl, ?_⟩
    refine Ops_step (R_pick_true rfl rfl) rfl rfl ?_
    refine Ops_step (R_move rfl) rfl rfl ?_
    refine Ops_known (b := true) 55 rfl (decide_eq_true (take_take_pre (by omega))) ?_
    refine Ops_step (R_move rfl) rfl rfl ?_
    refine Ops_step (R_len Tryd.underlying22 rfl rfl) rfl rfl ?_
    refine Ops_step (R_move rfl) rfl rfl ?_
    refine Ops_step (R_move rfl) rfl rfl ?_
    refine Ops_step (R_min rfl rfl (show _ = ((min n20 n24 : Nat) : Int) by omega)) rfl rfl ?_
    refine Ops_step (R_eql rfl rfl) rfl rfl ?_
    refine Ops_step (R_pick_true rfl rfl) rfl rfl ?_
    refine Ops_step (R_move rfl) rfl rfl ?_
    refine Ops_known (b := true) 63 rfl (decide_eq_true rfl) ?_
    refine Ops_call (C_func TWp.bd13 rfl) rfl rfl ?_
    refine (awake_any _ (hO.fr0 hF)).mono ?_
    rintro _ w64_ ⟨rfl, hF64_⟩
    replace hF := hF.fr0 hF64_
    replace hQ32 := hQ32.fr0 hF64_
    replace hQ41 := hQ41.fr0 hF64_
    clear hF64_
    refine ⟨_, rfl, ?_⟩
    refine Ops_step (R_pick_true rfl rfl) rfl rfl ?_
    refine Ops_step (R_assign rfl) rfl rfl ?_
    refine Ops_nil ?_
    refine then_n (hK12_ _ _ ?_)
    clear hK12_ K12_
    refine W_keepB [8] fun B13 hB13_ => ?_
    simp only [pickE, lookE, putE, zipE, args0, Nat.reduceAdd, Nat.zero_add, List.cons_append, List.nil_append, Nat.reduceBEq, cond_true, cond_false] at hB13_
    subst hB13_
    refine W_ret ?_
    refine ⟨_, ⟨_, _, rfl, rfl, rfl⟩, ?_⟩
    exact ⟨rfl, hF⟩

end Go.Proofs.YtghfohhekhedaaaDoor
