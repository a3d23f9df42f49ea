/- What the walks of this seat show of Wy. -/
import Derived.Test.YtghfohhekhedaaaDoorWx
import Derived.Test.YtghfohhekhedaaaDoorProg
set_option linter.unusedVariables false
set_option linter.unusedSimpArgs false
namespace Go.Proofs.YtghfohhekhedaaaDoor
open Go Go.Sx

namespace TWy
theorem hm : Tryd.prog.follows .mixedOrders = true := by kernel_rfl
theorem ag35 : aggB Tryd.prog 35 = some true := by kernel_rfl
theorem ag36 : aggB Tryd.prog 36 = some true := by kernel_rfl
theorem bd12 : bodied Tryd.prog 12 = true := by kernel_rfl
theorem bd13 : bodied Tryd.prog 13 = true := by kernel_rfl
theorem bd21 : bodied Tryd.prog 21 = true := by kernel_rfl
theorem bd26 : bodied Tryd.prog 26 = true := by kernel_rfl
theorem bd27 : bodied Tryd.prog 27 = true := by kernel_rfl
theorem el53 : Elem Tryd.prog 53 22 1 24 := Elem.of (by kernel_rfl)
theorem sz35 : sz Tryd.prog 35 = some 8 := by kernel_rfl
theorem sz36 : sz Tryd.prog 36 = some 8 := by kernel_rfl
theorem zr22 : zr Tryd.prog 22 = some ([.slice none 0 0]) := by kernel_rfl
end TWy
set_option maxHeartbeats 4000000 in
theorem law_keys_ok (A0 : Option Addr) (c0 : Nat) (a : List UInt8) (A1 : Option Addr) (c1 : Nat) (b : List UInt8) (m : Nat) (w : World) (hR0 : Rd w A0 (a.map vb)) (hl0 : a.length ≤ 140737488351232) (hR1 : Rd w A1 (b.map vb)) (hl1 : b.length ≤ 140737488351232) (hm : m ≤ 8160) (hO : Rd w (some ⟨0, 0, none⟩) ordC) :
    Calls Tryd.prog 9 #[.slice A0 a.length c0, .slice A1 b.length c1, vi m] w fun e w2 => e = .returned (.bool true) ∧ Fr [] w w2 := by
  have hF := Fr.refl [] w
  have sO := hO.ltO
  refine calls_W 41 Tryd.func9 rfl Tryd.ntmps9 rfl [.tmp 6] rfl ?_
  refine W_seq_k fun K1_ hK1_ => ?_
  refine W_region [some 6] rfl ?_
  refine Ops_step (R_assign rfl) rfl rfl ?_
  refine Ops_nil ?_
  refine then_n (hK1_ _ _ ?_)
  clear hK1_ K1_
  refine W_seq_k fun K2_ hK2_ => ?_
  refine W_seq_k fun K3_ hK3_ => ?_
  refine W_region [some 11, some 12, some 13, some 14] rfl ?_
  refine Ops_step (R_move rfl) rfl rfl ?_
  refine Ops_step (R_move rfl) rfl rfl ?_
  have hz13_hF := hF.size
  refine Ops_to (R_buildSlice TWy.el53 TWy.zr22 (by decide) (by decide) rfl rfl) rfl rfl ?_
  rintro _ w13_ ⟨b13, rfl, hb13, hB13, hF13_⟩
  have hl13 := hB13.lt
  replace hF := hF.fr0 hF13_
  clear hF13_
  refine Ops_call (C_func TWy.bd12 rfl) rfl rfl ?_
  refine (long_any _ [a, b] _ _ (RdLL.lit hB13 [a, b] [(A0, c0), (A1, c1)] rfl rfl (by simp only [List.zip_cons_cons, List.zip_nil_right, List.forall_mem_cons]; exact ⟨(hR0.fr0 hF), (hR1.fr0 hF), by simp⟩)) (by simp)).mono ?_
  rintro _ _ ⟨r14, rfl, hr14, rfl⟩
  refine ⟨_, rfl, ?_⟩
  refine Ops_nil ?_
  refine then_n (hK3_ _ _ ?_)
  clear hK3_ K3_
  refine W_cond rfl (fun hc14 => ?_) (fun hc14 => ?_)
  · refine W_seq_k fun K4_ hK4_ => ?_
    refine W_region [some 15, some 6] rfl ?_
    refine Ops_call (C_func TWy.bd13 rfl) rfl rfl ?_
    refine (awake_any _ (hO.fr0 hF)).mono ?_
    rintro _ w15_ ⟨rfl, hF15_⟩
    replace hF := hF.fr0 hF15_
    clear hF15_
    refine ⟨_, rfl, ?_⟩
    refine Ops_step (R_assign rfl) rfl rfl ?_
    refine Ops_nil ?_
    refine then_n (hK4_ _ _ ?_)
    clear hK4_ K4_
    refine W_keepB [6] fun B5 hB5_ => ?_
    simp only [pickE, lookE, putE, zipE, args0, Nat.reduceAdd, Nat.zero_add, List.cons_append, List.nil_append, Nat.reduceBEq, cond_true, cond_false] at hB5_
    subst hB5_
    refine W_ret ?_
    refine then_ret ?_
    clear hK2_ K2_
    refine ⟨_, ⟨_, _, rfl, rfl, rfl⟩, ?_⟩
    exact ⟨rfl, hF⟩
  · obtain ⟨_, hs_⟩ := hr14 hc14
    have hs0 : a.length ≤ 4096 := hs_ _ (by simp)
    have hs1 : b.length ≤ 4096 := hs_ _ (by simp)
    refine W_skip ?_
    refine then_n (hK2_ _ _ ?_)
    clear hK2_ K2_
    refine W_seq_k fun K6_ hK6_ => ?_
    refine W_region [some 17, some 18, some 19, some 20, some 16, some 21, some 22, some 7, some 8] rfl ?_
    refine Ops_step (R_move rfl) rfl rfl ?_
    refine Ops_step (R_move rfl) rfl rfl ?_
    refine Ops_step (R_move rfl) rfl rfl ?_
    have hz20 := hF.size
    refine Ops_call (C_func TWy.bd26 rfl) rfl rfl ?_
    refine (key_any _ _ _ _ _ _ m _ (by omega) (hR0.fr0 hF) (by omega) (hR1.fr0 hF) (by omega) (hO.fr0 hF)).mono ?_
    rintro _ w20_ ⟨A20, c20, rfl, hQ20, hF20_⟩
    replace hF := hF.fr0 hF20_
    clear hF20_
    replace hQ20 := hQ20.le hz20
    refine ⟨_, rfl, ?_⟩
    refine Ops_step (R_move rfl) rfl rfl ?_
    refine Ops_step (R_extract rfl rfl) rfl rfl ?_
    refine Ops_step (R_extract rfl rfl) rfl rfl ?_
    refine Ops_step (R_assign rfl) rfl rfl ?_
    refine Ops_step (R_assign rfl) rfl rfl ?_
    refine Ops_nil ?_
    refine then_n (hK6_ _ _ ?_)
    clear hK6_ K6_
    refine W_keepB [0, 1, 2, 7, 8] fun B7 hB7_ => ?_
    simp only [pickE, lookE, putE, zipE, args0, Nat.reduceAdd, Nat.zero_add, List.cons_append, List.nil_append, Nat.reduceBEq, cond_true, cond_false] at hB7_
    subst hB7_
    refine W_seq_k fun K8_ hK8_ => ?_
    refine W_region [some 24, some 25, some 26, some 27, some 23, some 28, some 29, some 9, some 10] rfl ?_
    refine Ops_step (R_move rfl) rfl rfl ?_
    refine Ops_step (R_move rfl) rfl rfl ?_
    refine Ops_step (R_move rfl) rfl rfl ?_
    refine Ops_call (C_func TWy.bd27 rfl) rfl rfl ?_
    refine (rkey_any _ _ _ _ _ _ m _ (by omega) (hR0.fr0 hF) (by omega) (hR1.fr0 hF) (by omega)).mono ?_
    rintro _ w27_ ⟨A27, c27, rfl, hA27, hF27_⟩
    replace hF := hF.fr0 hF27_
    replace hQ20 := hQ20.fr0 hF27_
    clear hF27_
    refine ⟨_, rfl, ?_⟩
    refine Ops_step (R_move rfl) rfl rfl ?_
    refine Ops_step (R_extract rfl rfl) rfl rfl ?_
    refine Ops_step (R_extract rfl rfl) rfl rfl ?_
    refine Ops_step (R_assign rfl) rfl rfl ?_
    refine Ops_step (R_assign rfl) rfl rfl ?_
    refine Ops_nil ?_
    refine then_n (hK8_ _ _ ?_)
    clear hK8_ K8_
    refine W_keepB [7, 8, 9, 10] fun B9 hB9_ => ?_
    simp only [pickE, lookE, putE, zipE, args0, Nat.reduceAdd, Nat.zero_add, List.cons_append, List.nil_append, Nat.reduceBEq, cond_true, cond_false] at hB9_
    subst hB9_
    refine W_seq_k fun K10_ hK10_ => ?_
    refine W_region [some 30, some 31, some 32, some 33, some 34, some 35, some 36, some 37, some 38, some 39, some 40, some 6] rfl ?_
    refine Ops_step (R_move rfl) rfl rfl ?_
    refine Ops_step (R_move rfl) rfl rfl ?_
    refine Ops_call (C_func TWy.bd21 rfl) rfl rfl ?_
    refine (beq_any _ _ _ _ _ _ _ _ _ (by rw [List.length_take, keyO_len]; omega) (by rw [List.length_take, keyO_len]; omega) hQ20.rd hA27).mono ?_
    rintro _ _ ⟨rfl, rfl⟩
    refine ⟨_, rfl, ?_⟩
    refine Ops_step (R_move rfl) rfl rfl ?_
    refine Ops_known (b := true) 33 rfl (decide_eq_true rfl) ?_
    refine Ops_step (R_move rfl) rfl rfl ?_
    refine Ops_step (R_move rfl) rfl rfl ?_
    refine Ops_step (R_eql rfl rfl) rfl rfl ?_
    refine Ops_step (R_pick_true rfl rfl) rfl rfl ?_
    refine Ops_step (R_move rfl) rfl rfl ?_
    refine Ops_known (b := true) 38 rfl (decide_eq_true rfl) ?_
    refine Ops_call (C_func TWy.bd13 rfl) rfl rfl ?_
    refine (awake_any _ (hO.fr0 hF)).mono ?_
    rintro _ w39_ ⟨rfl, hF39_⟩
    replace hF := hF.fr0 hF39_
    replace hQ20 := hQ20.fr0 hF39_
    replace hA27 := hA27.fr0 hF39_
    clear hF39_
    refine ⟨_, rfl, ?_⟩
    refine Ops_step (R_pick_true rfl rfl) rfl rfl ?_
    refine Ops_step (R_assign rfl) rfl rfl ?_
    refine Ops_nil ?_
    refine then_n (hK10_ _ _ ?_)
    clear hK10_ K10_
    refine W_keepB [6] fun B11 hB11_ => ?_
    simp only [pickE, lookE, putE, zipE, args0, Nat.reduceAdd, Nat.zero_add, List.cons_append, List.nil_append, Nat.reduceBEq, cond_true, cond_false] at hB11_
    subst hB11_
    refine W_ret ?_
    refine ⟨_, ⟨_, _, rfl, rfl, rfl⟩, ?_⟩
    exact ⟨rfl, hF⟩
set_option maxHeartbeats 4000000 in
theorem law_keys_bad (A0 : Option Addr) (c0 : Nat) (a : List UInt8) (A1 : Option Addr) (c1 : Nat) (b : List UInt8) (n : Int) (w : World) (hR0 : Rd w A0 (a.map vb)) (hl0 : a.length ≤ 140737488351232) (hR1 : Rd w A1 (b.map vb)) (hl1 : b.length ≤ 140737488351232) (hm : ¬ (0 ≤ n ∧ n ≤ 8160)) (hO : Rd w (some ⟨0, 0, none⟩) ordC) :
    Calls Tryd.prog 9 #[.slice A0 a.length c0, .slice A1 b.length c1, vi n] w fun e w2 => e = .returned (.bool true) ∧ Fr [] w w2 := by
  have hF := Fr.refl [] w
  have sO := hO.ltO
  refine calls_W 41 Tryd.func9 rfl Tryd.ntmps9 rfl [.tmp 6] rfl ?_
  refine W_seq_k fun K1_ hK1_ => ?_
  refine W_region [some 6] rfl ?_
  refine Ops_step (R_assign rfl) rfl rfl ?_
  refine Ops_nil ?_
  refine then_n (hK1_ _ _ ?_)
  clear hK1_ K1_
  refine W_seq_k fun K2_ hK2_ => ?_
  refine W_seq_k fun K3_ hK3_ => ?_
  refine W_region [some 11, some 12, some 13, some 14] rfl ?_
  refine Ops_step (R_move rfl) rfl rfl ?_
  refine Ops_step (R_move rfl) rfl rfl ?_
  have hz13_hF := hF.size
  refine Ops_to (R_buildSlice TWy.el53 TWy.zr22 (by decide) (by decide) rfl rfl) rfl rfl ?_
  rintro _ w13_ ⟨b13, rfl, hb13, hB13, hF13_⟩
  have hl13 := hB13.lt
  replace hF := hF.fr0 hF13_
  clear hF13_
  refine Ops_call (C_func TWy.bd12 rfl) rfl rfl ?_
  refine (long_any _ [a, b] _ _ (RdLL.lit hB13 [a, b] [(A0, c0), (A1, c1)] rfl rfl (by simp only [List.zip_cons_cons, List.zip_nil_right, List.forall_mem_cons]; exact ⟨(hR0.fr0 hF), (hR1.fr0 hF), by simp⟩)) (by simp)).mono ?_
  rintro _ _ ⟨r14, rfl, hr14, rfl⟩
  refine ⟨_, rfl, ?_⟩
  refine Ops_nil ?_
  refine then_n (hK3_ _ _ ?_)
  clear hK3_ K3_
  refine W_cond rfl (fun hc14 => ?_) (fun hc14 => ?_)
  · refine W_seq_k fun K4_ hK4_ => ?_
    refine W_region [some 15, some 6] rfl ?_
    refine Ops_call (C_func TWy.bd13 rfl) rfl rfl ?_
    refine (awake_any _ (hO.fr0 hF)).mono ?_
    rintro _ w15_ ⟨rfl, hF15_⟩
    replace hF := hF.fr0 hF15_
    clear hF15_
    refine ⟨_, rfl, ?_⟩
    refine Ops_step (R_assign rfl) rfl rfl ?_
    refine Ops_nil ?_
    refine then_n (hK4_ _ _ ?_)
    clear hK4_ K4_
    refine W_keepB [6] fun B5 hB5_ => ?_
    simp only [pickE, lookE, putE, zipE, args0, Nat.reduceAdd, Nat.zero_add, List.cons_append, List.nil_append, Nat.reduceBEq, cond_true, cond_false] at hB5_
    subst hB5_
    refine W_ret ?_
    refine then_ret ?_
    clear hK2_ K2_
    refine ⟨_, ⟨_, _, rfl, rfl, rfl⟩, ?_⟩
    exact ⟨rfl, hF⟩
  · obtain ⟨_, hs_⟩ := hr14 hc14
    have hs0 : a.length ≤ 4096 := hs_ _ (by simp)
    have hs1 : b.length ≤ 4096 := hs_ _ (by simp)
    refine W_skip ?_
    refine then_n (hK2_ _ _ ?_)
    clear hK2_ K2_
    refine W_seq_k fun K6_ hK6_ => ?_
    refine W_region [some 17, some 18, some 19, some 20, some 16, some 21, some 22, some 7, some 8] rfl ?_
    refine Ops_step (R_move rfl) rfl rfl ?_
    refine Ops_step (R_move rfl) rfl rfl ?_
    refine Ops_step (R_move rfl) rfl rfl ?_
    refine Ops_call (C_func TWy.bd26 rfl) rfl rfl ?_
    refine (key_bad _ _ n _ hm).mono ?_
    rintro _ _ ⟨rfl, rfl⟩
    refine ⟨_, rfl, ?_⟩
    refine Ops_step (R_move rfl) rfl rfl ?_
    refine Ops_step (R_extract rfl rfl) rfl rfl ?_
    refine Ops_step (R_extract rfl rfl) rfl rfl ?_
    refine Ops_step (R_assign rfl) rfl rfl ?_
    refine Ops_step (R_assign rfl) rfl rfl ?_
    refine Ops_nil ?_
    refine then_n (hK6_ _ _ ?_)
    clear hK6_ K6_
    refine W_keepB [0, 1, 2, 7, 8] fun B7 hB7_ => ?_
    simp only [pickE, lookE, putE, zipE, args0, Nat.reduceAdd, Nat.zero_add, List.cons_append, List.nil_append, Nat.reduceBEq, cond_true, cond_false] at hB7_
    subst hB7_
    refine W_seq_k fun K8_ hK8_ => ?_
    refine W_region [some 24, some 25, some 26, some 27, some 23, some 28, some 29, some 9, some 10] rfl ?_
    refine Ops_step (R_move rfl) rfl rfl ?_
    refine Ops_step (R_move rfl) rfl rfl ?_
    refine Ops_step (R_move rfl) rfl rfl ?_
    refine Ops_call (C_func TWy.bd27 rfl) rfl rfl ?_
    refine (rkey_bad _ _ n _ hm).mono ?_
    rintro _ _ ⟨rfl, rfl⟩
    refine ⟨_, rfl, ?_⟩
    refine Ops_step (R_move rfl) rfl rfl ?_
    refine Ops_step (R_extract rfl rfl) rfl rfl ?_
    refine Ops_step (R_extract rfl rfl) rfl rfl ?_
    refine Ops_step (R_assign rfl) rfl rfl ?_
    refine Ops_step (R_assign rfl) rfl rfl ?_
    refine Ops_nil ?_
    refine then_n (hK8_ _ _ ?_)
    clear hK8_ K8_
    refine W_keepB [7, 8, 9, 10] fun B9 hB9_ => ?_
    simp only [pickE, lookE, putE, zipE, args0, Nat.reduceAdd, Nat.zero_add, List.cons_append, List.nil_append, Nat.reduceBEq, cond_true, cond_false] at hB9_
    subst hB9_
    refine W_seq_k fun K10_ hK10_ => ?_
    refine W_region [some 30, some 31, some 32, some 33, some 34, some 35, some 36, some 37, some 38, some 39, some 40, some 6] rfl ?_
    refine Ops_step (R_move rfl) rfl rfl ?_
    refine Ops_step (R_move rfl) rfl rfl ?_
    refine Ops_call (C_func TWy.bd21 rfl) rfl rfl ?_
    refine (beq_any _ _ _ _ _ _ [] [] _ rfl rfl (Rd.nil _ _) (Rd.nil _ _)).mono ?_
    rintro _ _ ⟨rfl, rfl⟩
    refine ⟨_, rfl, ?_⟩
    refine Ops_step (R_move rfl) rfl rfl ?_
    refine Ops_known (b := true) 33 rfl (decide_eq_true rfl) ?_
    refine Ops_step (R_move rfl) rfl rfl ?_
    refine Ops_step (R_move rfl) rfl rfl ?_
    refine Ops_step (R_eql rfl rfl) rfl rfl ?_
    refine Ops_step (R_pick_true rfl rfl) rfl rfl ?_
    refine Ops_step (R_move rfl) rfl rfl ?_
    refine Ops_known (b := true) 38 rfl (decide_eq_true rfl) ?_
    refine Ops_call (C_func TWy.bd13 rfl) rfl rfl ?_
    refine (awake_any _ (hO.fr0 hF)).mono ?_
    rintro _ w39_ ⟨rfl, hF39_⟩
    replace hF := hF.fr0 hF39_
    clear hF39_
    refine ⟨_, rfl, ?_⟩
    refine Ops_step (R_pick_true rfl rfl) rfl rfl ?_
    refine Ops_step (R_assign rfl) rfl rfl ?_
    refine Ops_nil ?_
    refine then_n (hK10_ _ _ ?_)
    clear hK10_ K10_
    refine W_keepB [6] fun B11 hB11_ => ?_
    simp only [pickE, lookE, putE, zipE, args0, Nat.reduceAdd, Nat.zero_add, List.cons_append, List.nil_append, Nat.reduceBEq, cond_true, cond_false] at hB11_
    subst hB11_
    refine W_ret ?_
    refine ⟨_, ⟨_, _, rfl, rfl, rfl⟩, ?_⟩
    exact ⟨rfl, hF⟩

theorem law_keys (A0 : Option Addr) (c0 : Nat) (a : List UInt8) (A1 : Option Addr) (c1 : Nat) (b : List UInt8) (n : Int) (w : World) (hR0 : Rd w A0 (a.map vb)) (hl0 : a.length ≤ 140737488351232) (hR1 : Rd w A1 (b.map vb)) (hl1 : b.length ≤ 140737488351232) (_wf : (Lit.int .i64 n).wf = true) (hO : Rd w (some ⟨0, 0, none⟩) ordC) :
    Calls Tryd.prog 9 #[.slice A0 a.length c0, .slice A1 b.length c1, vi n] w fun e w2 => e = .returned (.bool true) ∧ Fr [] w w2 := by
  by_cases hm : 0 ≤ n ∧ n ≤ 8160
  · obtain ⟨m, rfl⟩ := Int.eq_ofNat_of_zero_le hm.1
    exact law_keys_ok A0 c0 a A1 c1 b m w hR0 hl0 hR1 hl1 (by omega) hO
  · exact law_keys_bad A0 c0 a A1 c1 b n w hR0 hl0 hR1 hl1 hm hO

end Go.Proofs.YtghfohhekhedaaaDoor
