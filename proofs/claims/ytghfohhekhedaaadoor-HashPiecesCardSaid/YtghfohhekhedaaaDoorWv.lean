/- What the walks of this seat show of Wv. -/
import Derived.Test.YtghfohhekhedaaaDoorWu
import Derived.Test.YtghfohhekhedaaaDoorProg
set_option linter.unusedVariables false
set_option linter.unusedSimpArgs false
namespace Go.Proofs.YtghfohhekhedaaaDoor
open Go Go.Sx

namespace TWv
theorem hm : Tryd.prog.follows .mixedOrders = true := by kernel_rfl
theorem a8_30 : Arr8 Tryd.prog 30 32 := ⟨_, Tryd.underlying30, by kernel_rfl, by kernel_rfl, Tryd.underlying5, by kernel_rfl⟩
theorem ag35 : aggB Tryd.prog 35 = some true := by kernel_rfl
theorem ag36 : aggB Tryd.prog 36 = some true := by kernel_rfl
theorem bd12 : bodied Tryd.prog 12 = true := by kernel_rfl
theorem bd13 : bodied Tryd.prog 13 = true := by kernel_rfl
theorem bd15 : bodied Tryd.prog 15 = true := by kernel_rfl
theorem bd16 : bodied Tryd.prog 16 = true := by kernel_rfl
theorem bd20 : bodied Tryd.prog 20 = true := by kernel_rfl
theorem bd22 : bodied Tryd.prog 22 = true := by kernel_rfl
theorem bd23 : bodied Tryd.prog 23 = true := by kernel_rfl
theorem bd24 : bodied Tryd.prog 24 = true := by kernel_rfl
theorem el53 : Elem Tryd.prog 53 22 1 24 := Elem.of (by kernel_rfl)
theorem gg_30 : Tryd.prog.eqGuardType Tryd.prog.depth 30 = false := by kernel_rfl
theorem sz35 : sz Tryd.prog 35 = some 8 := by kernel_rfl
theorem sz36 : sz Tryd.prog 36 = some 8 := by kernel_rfl
theorem zr22 : zr Tryd.prog 22 = some ([.slice none 0 0]) := by kernel_rfl
end TWv
set_option maxHeartbeats 4000000 in
theorem law_keyed_in (A0 : Option Addr) (c0 : Nat) (a : List UInt8) (A1 : Option Addr) (c1 : Nat) (b : List UInt8) (w : World) (hR0 : Rd w A0 (a.map vb)) (hl0 : a.length ≤ 140737488351232) (hR1 : Rd w A1 (b.map vb)) (hl1 : b.length ≤ 140737488351232) (hl : 1 ≤ a.length ∧ a.length ≤ 32) (hO : Rd w (some ⟨0, 0, none⟩) ordC) :
    Calls Tryd.prog 7 #[.slice A0 a.length c0, .slice A1 b.length c1] w fun e w2 => e = .returned (.bool true) ∧ Fr [] w w2 := by
  have hF := Fr.refl [] w
  have sO := hO.ltO
  refine calls_W 62 Tryd.func7 rfl Tryd.ntmps7 rfl [.tmp 4] rfl ?_
  refine W_seq_k fun K1_ hK1_ => ?_
  refine W_region [some 4] rfl ?_
  refine Ops_step (R_assign rfl) rfl rfl ?_
  refine Ops_nil ?_
  refine then_n (hK1_ _ _ ?_)
  clear hK1_ K1_
  refine W_seq_k fun K2_ hK2_ => ?_
  refine W_seq_k fun K3_ hK3_ => ?_
  refine W_region [some 7, some 8, some 9, some 10] rfl ?_
  refine Ops_step (R_move rfl) rfl rfl ?_
  refine Ops_step (R_move rfl) rfl rfl ?_
  have hz9_hF := hF.size
  refine Ops_to (R_buildSlice TWv.el53 TWv.zr22 (by decide) (by decide) rfl rfl) rfl rfl ?_
  rintro _ w9_ ⟨b9, rfl, hb9, hB9, hF9_⟩
  have hl9 := hB9.lt
  replace hF := hF.fr0 hF9_
  clear hF9_
  refine Ops_call (C_func TWv.bd12 rfl) rfl rfl ?_
  refine (long_any _ [a, b] _ _ (RdLL.lit hB9 [a, b] [(A0, c0), (A1, c1)] rfl rfl (by simp only [List.zip_cons_cons, List.zip_nil_right, List.forall_mem_cons]; exact ⟨(hR0.fr0 hF), (hR1.fr0 hF), by simp⟩)) (by simp)).mono ?_
  rintro _ _ ⟨r10, rfl, hr10, rfl⟩
  refine ⟨_, rfl, ?_⟩
  refine Ops_nil ?_
  refine then_n (hK3_ _ _ ?_)
  clear hK3_ K3_
  refine W_cond rfl (fun hc10 => ?_) (fun hc10 => ?_)
  · refine W_seq_k fun K4_ hK4_ => ?_
    refine W_region [some 11, some 4] rfl ?_
    refine Ops_call (C_func TWv.bd13 rfl) rfl rfl ?_
    refine (awake_any _ (hO.fr0 hF)).mono ?_
    rintro _ w11_ ⟨rfl, hF11_⟩
    replace hF := hF.fr0 hF11_
    clear hF11_
    refine ⟨_, rfl, ?_⟩
    refine Ops_step (R_assign rfl) rfl rfl ?_
    refine Ops_nil ?_
    refine then_n (hK4_ _ _ ?_)
    clear hK4_ K4_
    refine W_keepB [4] fun B5 hB5_ => ?_
    simp only [pickE, lookE, putE, zipE, args0, Nat.reduceAdd, Nat.zero_add, List.cons_append, List.nil_append, Nat.reduceBEq, cond_true, cond_false] at hB5_
    subst hB5_
    refine W_ret ?_
    refine then_ret ?_
    clear hK2_ K2_
    refine ⟨_, ⟨_, _, rfl, rfl, rfl⟩, ?_⟩
    exact ⟨rfl, hF⟩
  · obtain ⟨_, hs_⟩ := hr10 hc10
    have hs0 : a.length ≤ 4096 := hs_ _ (by simp)
    have hs1 : b.length ≤ 4096 := hs_ _ (by simp)
    refine W_skip ?_
    refine then_n (hK2_ _ _ ?_)
    clear hK2_ K2_
    refine W_seq_k fun K6_ hK6_ => ?_
    refine W_seq_k fun K7_ hK7_ => ?_
    refine W_region [some 12, some 13, some 14, some 15, some 16, some 17, some 18, some 19] rfl ?_
    refine Ops_step (R_move rfl) rfl rfl ?_
    refine Ops_step (R_move rfl) rfl rfl ?_
    have hz14_hF := hF.size
    refine Ops_to (R_buildSlice TWv.el53 TWv.zr22 (by decide) (by decide) rfl rfl) rfl rfl ?_
    rintro _ w14_ ⟨b14, rfl, hb14, hB14, hF14_⟩
    have hl14 := hB14.lt
    replace hF := hF.fr0 hF14_
    clear hF14_
    refine Ops_call (C_func TWv.bd22 rfl) rfl rfl ?_
    refine (keyed_any _ a _ _ _ [b] _ _ (by rfl) (hR0.fr0 hF) (by omega) (RdLL.lit hB14 [b] [(A1, c1)] rfl rfl (by simp only [List.zip_cons_cons, List.zip_nil_right, List.forall_mem_cons]; exact ⟨(hR1.fr0 hF), by simp⟩)) (by simp; omega) (by simp) (hO.fr0 hF)).mono ?_
    rintro _ w15_ ⟨rfl, hF15_⟩
    replace hF := hF.fr0 hF15_
    replace hB14 := hB14.fr0 hF15_
    clear hF15_
    refine ⟨_, rfl, ?_⟩
    refine Ops_step (R_move rfl) rfl rfl ?_
    refine Ops_step (R_move rfl) rfl rfl ?_
    refine Ops_call (C_func TWv.bd23 rfl) rfl rfl ?_
    refine (rkeyed_any _ a _ _ _ _ _ _ _ (by rfl) (by rfl) (hR0.fr0 hF) (by omega) (hR1.fr0 hF) (by omega)).mono ?_
    rintro _ w18_ ⟨rfl, hF18_⟩
    replace hF := hF.fr0 hF18_
    clear hF18_
    refine ⟨_, rfl, ?_⟩
    refine Ops_step (R_neqArr8 TWv.a8_30 rfl rfl TWv.gg_30 (keyed_len _ _) (keyed_len _ _)) rfl rfl ?_
    refine Ops_nil ?_
    refine then_n (hK7_ _ _ ?_)
    clear hK7_ K7_
    refine W_keepB [0, 1, 19] fun B8 hB8_ => ?_
    simp only [pickE, lookE, putE, zipE, args0, Nat.reduceAdd, Nat.zero_add, List.cons_append, List.nil_append, Nat.reduceBEq, cond_true, cond_false] at hB8_
    subst hB8_
    refine W_no rfl (by simp) ?_
    refine W_skip ?_
    refine then_n (hK6_ _ _ ?_)
    clear hK6_ K6_
    refine W_seq_k fun K9_ hK9_ => ?_
    refine W_region [some 21, some 22, some 20, some 23, some 24, some 5, some 6] rfl ?_
    refine Ops_step (R_move rfl) rfl rfl ?_
    have hz22_hF := hF.size
    refine Ops_call (C_func TWv.bd24 rfl) rfl rfl ?_
    refine (under_any _ _ _ _ hl (hR0.fr0 hF)).mono ?_
    rintro _ w22_ ⟨d22, rfl, hD22, hF22_⟩
    replace hF := hF.fr0 hF22_
    clear hF22_
    refine Exists.elim hD22.name fun B22 h_ => ?_
    clear hD22
    have hBe22 := h_.1
    have hD22 := h_.2
    clear h_
    have hge22 := hD22.ge
    refine ⟨_, rfl, ?_⟩
    refine Ops_step (R_move rfl) rfl rfl ?_
    refine Ops_step (R_extract rfl rfl) rfl rfl ?_
    refine Ops_step (R_extract rfl rfl) rfl rfl ?_
    refine Ops_step (R_assign rfl) rfl rfl ?_
    refine Ops_step (R_assign rfl) rfl rfl ?_
    refine Ops_nil ?_
    refine then_n (hK9_ _ _ ?_)
    clear hK9_ K9_
    refine W_keepB [0, 1, 5, 6] fun B10 hB10_ => ?_
    simp only [pickE, lookE, putE, zipE, args0, Nat.reduceAdd, Nat.zero_add, List.cons_append, List.nil_append, Nat.reduceBEq, cond_true, cond_false] at hB10_
    subst hB10_
    refine W_seq_k fun K11_ hK11_ => ?_
    refine W_seq_k fun K12_ hK12_ => ?_
    refine W_region [some 25, some 26, some 27, some 28, some 29, some 30, some 31, some 32] rfl ?_
    refine Ops_step (R_move rfl) rfl rfl ?_
    refine Ops_step (R_len Tryd.underlying22 rfl rfl) rfl rfl ?_
    refine Ops_step (R_lss rfl rfl) rfl rfl ?_
    refine Ops_step (R_move rfl) rfl rfl ?_
    refine Ops_split 28 rfl (fun hg28 => ?_) (fun hg28 => ?_)
    · exact absurd hg28 (by omega)
    · refine Ops_step (R_move rfl) rfl rfl ?_
      refine Ops_step (R_len Tryd.underlying22 rfl rfl) rfl rfl ?_
      refine Ops_step (R_gtr rfl rfl) rfl rfl ?_
      refine Ops_step (R_pick_false rfl rfl) rfl rfl ?_
      refine Ops_nil ?_
      refine then_n (hK12_ _ _ ?_)
      clear hK12_ K12_
      refine W_keepB [0, 1, 5, 6, 32] fun B13 hB13_ => ?_
      simp only [pickE, lookE, putE, zipE, args0, Nat.reduceAdd, Nat.zero_add, List.cons_append, List.nil_append, Nat.reduceBEq, cond_true, cond_false] at hB13_
      subst hB13_
      refine W_if rfl (fun hc32 => ?_) (fun hc32 => ?_)
      · exact absurd hc32 (by omega)
      · refine W_skip ?_
        refine then_n (hK11_ _ _ ?_)
        clear hK11_ K11_
        refine W_seq_k fun K14_ hK14_ => ?_
        refine W_region [some 42, some 43, some 44, some 45, some 46, some 47, some 48, some 49, some 50, some 51, some 52, some 53, some 54, some 55, some 56, some 57, some 58, some 59, some 60, some 61, some 4] rfl ?_
        refine Ops_step (R_move rfl) rfl rfl ?_
        refine Ops_step (R_eql rfl rfl) rfl rfl ?_
        refine Ops_step (R_move rfl) rfl rfl ?_
        refine Ops_known (b := true) 44 rfl (decide_eq_true rfl) ?_
        refine Ops_step (R_move rfl) rfl rfl ?_
        refine Ops_step (R_move rfl) rfl rfl ?_
        have hz47_hF := hF.size
        have hn47_hD22 := hD22.lt
        refine Ops_to (R_buildSlice TWv.el53 TWv.zr22 (by decide) (by decide) rfl rfl) rfl rfl ?_
        rintro _ w47_ ⟨b47, rfl, hb47, hB47, hF47_⟩
        have hl47 := hB47.lt
        replace hF := hF.fr0 hF47_
        replace hD22 := hD22.fr0 hF47_
        clear hF47_
        have hs48_ := hF.size
        have hd48_ := hD22
        have hw48_ := hD22.lt
        refine Ops_call (C_func TWv.bd15 rfl) rfl rfl ?_
        refine (add_any _ _ _ _ [b] _ _ hD22 (RdL.lit hB47 (by omega) [b] [(A1, c1)] rfl rfl (by simp only [List.zip_cons_cons, List.zip_nil_right, List.forall_mem_cons]; exact ⟨(RdX.old hR1 hF (by omega)), by simp⟩)) (by simp only [List.forall_mem_cons]; refine ⟨by omega, by simp⟩) (by simp) (by omega) (hO.fr0 hF) (by omega)).mono ?_
        rintro _ w48_ ⟨rfl, hD22, hF48_⟩
        replace hF := hF.then hF48_ (by simp only [List.mem_singleton]; omega)
        replace hB47 := hB47.fr hF48_ (by simp only [List.mem_cons, List.not_mem_nil, or_false]; omega)
        clear hF48_
        refine ⟨_, rfl, ?_⟩
        refine Ops_step (R_eql rfl rfl) rfl rfl ?_
        refine Ops_step (R_pick_true rfl rfl) rfl rfl ?_
        refine Ops_step (R_move rfl) rfl rfl ?_
        refine Ops_known (b := true) 51 rfl (decide_eq_true rfl) ?_
        refine Ops_step (R_move rfl) rfl rfl ?_
        refine Ops_call (C_func TWv.bd16 rfl) rfl rfl ?_
        refine (sum_any _ _ _ _ hD22 (hO.fr0 hF)).mono ?_
        rintro _ w53_ ⟨rfl, hF53_⟩
        replace hF := hF.fr0 hF53_
        replace hD22 := hD22.fr0 hF53_
        clear hF53_
        refine ⟨_, rfl, ?_⟩
        refine Ops_step (R_move rfl) rfl rfl ?_
        refine Ops_step (R_move rfl) rfl rfl ?_
        refine Ops_call (C_func TWv.bd20 rfl) rfl rfl ?_
        refine (rdigest_n _ a _ _ _ _ _ _ _ (by rfl) rfl (hR0.fr0 hF) (by omega) (hR1.fr0 hF) (by omega)).mono ?_
        rintro _ w56_ ⟨rfl, hF56_⟩
        replace hF := hF.fr0 hF56_
        replace hD22 := hD22.fr0 hF56_
        clear hF56_
        refine ⟨_, rfl, ?_⟩
        refine Ops_step (R_eqlArr8 TWv.a8_30 rfl rfl TWv.gg_30 (sum_len _) (sum_len _)) rfl rfl ?_
        refine Ops_step (R_pick_true rfl rfl) rfl rfl ?_
        refine Ops_step (R_move rfl) rfl rfl ?_
        refine Ops_known (b := true) 59 rfl (decide_eq_true rfl) ?_
        refine Ops_call (C_func TWv.bd13 rfl) rfl rfl ?_
        refine (awake_any _ (hO.fr0 hF)).mono ?_
        rintro _ w60_ ⟨rfl, hF60_⟩
        replace hF := hF.fr0 hF60_
        replace hD22 := hD22.fr0 hF60_
        clear hF60_
        refine ⟨_, rfl, ?_⟩
        refine Ops_step (R_pick_true rfl rfl) rfl rfl ?_
        refine Ops_step (R_assign rfl) rfl rfl ?_
        refine Ops_nil ?_
        refine then_n (hK14_ _ _ ?_)
        clear hK14_ K14_
        refine W_keepB [4] fun B15 hB15_ => ?_
        simp only [pickE, lookE, putE, zipE, args0, Nat.reduceAdd, Nat.zero_add, List.cons_append, List.nil_append, Nat.reduceBEq, cond_true, cond_false] at hB15_
        subst hB15_
        refine W_ret ?_
        refine ⟨_, ⟨_, _, rfl, rfl, rfl⟩, ?_⟩
        exact ⟨rfl, hF⟩
set_option maxHeartbeats 4000000 in
theorem law_keyed_bad (A0 : Option Addr) (c0 : Nat) (a : List UInt8) (A1 : Option Addr) (c1 : Nat) (b : List UInt8) (w : World) (hR0 : Rd w A0 (a.map vb)) (hl0 : a.length ≤ 140737488351232) (hR1 : Rd w A1 (b.map vb)) (hl1 : b.length ≤ 140737488351232) (hl : ¬ (1 ≤ a.length ∧ a.length ≤ 32)) (hO : Rd w (some ⟨0, 0, none⟩) ordC) :
    Calls Tryd.prog 7 #[.slice A0 a.length c0, .slice A1 b.length c1] w fun e w2 => e = .returned (.bool true) ∧ Fr [] w w2 := by
  have hF := Fr.refl [] w
  have sO := hO.ltO
  refine calls_W 62 Tryd.func7 rfl Tryd.ntmps7 rfl [.tmp 4] rfl ?_
  refine W_seq_k fun K1_ hK1_ => ?_
  refine W_region [some 4] rfl ?_
  refine Ops_step (R_assign rfl) rfl rfl ?_
  refine Ops_nil ?_
  refine then_n (hK1_ _ _ ?_)
  clear hK1_ K1_
  refine W_seq_k fun K2_ hK2_ => ?_
  refine W_seq_k fun K3_ hK3_ => ?_
  refine W_region [some 7, some 8, some 9, some 10] rfl ?_
  refine Ops_step (R_move rfl) rfl rfl ?_
  refine Ops_step (R_move rfl) rfl rfl ?_
  have hz9_hF := hF.size
  refine Ops_to (R_buildSlice TWv.el53 TWv.zr22 (by decide) (by decide) rfl rfl) rfl rfl ?_
  rintro _ w9_ ⟨b9, rfl, hb9, hB9, hF9_⟩
  have hl9 := hB9.lt
  replace hF := hF.fr0 hF9_
  clear hF9_
  refine Ops_call (C_func TWv.bd12 rfl) rfl rfl ?_
  refine (long_any _ [a, b] _ _ (RdLL.lit hB9 [a, b] [(A0, c0), (A1, c1)] rfl rfl (by simp only [List.zip_cons_cons, List.zip_nil_right, List.forall_mem_cons]; exact ⟨(hR0.fr0 hF), (hR1.fr0 hF), by simp⟩)) (by simp)).mono ?_
  rintro _ _ ⟨r10, rfl, hr10, rfl⟩
  refine ⟨_, rfl, ?_⟩
  refine Ops_nil ?_
  refine then_n (hK3_ _ _ ?_)
  clear hK3_ K3_
  refine W_cond rfl (fun hc10 => ?_) (fun hc10 => ?_)
  · refine W_seq_k fun K4_ hK4_ => ?_
    refine W_region [some 11, some 4] rfl ?_
    refine Ops_call (C_func TWv.bd13 rfl) rfl rfl ?_
    refine (awake_any _ (hO.fr0 hF)).mono ?_
    rintro _ w11_ ⟨rfl, hF11_⟩
    replace hF := hF.fr0 hF11_
    clear hF11_
    refine ⟨_, rfl, ?_⟩
    refine Ops_step (R_assign rfl) rfl rfl ?_
    refine Ops_nil ?_
    refine then_n (hK4_ _ _ ?_)
    clear hK4_ K4_
    refine W_keepB [4] fun B5 hB5_ => ?_
    simp only [pickE, lookE, putE, zipE, args0, Nat.reduceAdd, Nat.zero_add, List.cons_append, List.nil_append, Nat.reduceBEq, cond_true, cond_false] at hB5_
    subst hB5_
    refine W_ret ?_
    refine then_ret ?_
    clear hK2_ K2_
    refine ⟨_, ⟨_, _, rfl, rfl, rfl⟩, ?_⟩
    exact ⟨rfl, hF⟩
  · obtain ⟨_, hs_⟩ := hr10 hc10
    have hs0 : a.length ≤ 4096 := hs_ _ (by simp)
    have hs1 : b.length ≤ 4096 := hs_ _ (by simp)
    refine W_skip ?_
    refine then_n (hK2_ _ _ ?_)
    clear hK2_ K2_
    refine W_seq_k fun K6_ hK6_ => ?_
    refine W_seq_k fun K7_ hK7_ => ?_
    refine W_region [some 12, some 13, some 14, some 15, some 16, some 17, some 18, some 19] rfl ?_
    refine Ops_step (R_move rfl) rfl rfl ?_
    refine Ops_step (R_move rfl) rfl rfl ?_
    have hz14_hF := hF.size
    refine Ops_to (R_buildSlice TWv.el53 TWv.zr22 (by decide) (by decide) rfl rfl) rfl rfl ?_
    rintro _ w14_ ⟨b14, rfl, hb14, hB14, hF14_⟩
    have hl14 := hB14.lt
    replace hF := hF.fr0 hF14_
    clear hF14_
    refine Ops_call (C_func TWv.bd22 rfl) rfl rfl ?_
    refine (keyed_any _ a _ _ _ [b] _ _ (by rfl) (hR0.fr0 hF) (by omega) (RdLL.lit hB14 [b] [(A1, c1)] rfl rfl (by simp only [List.zip_cons_cons, List.zip_nil_right, List.forall_mem_cons]; exact ⟨(hR1.fr0 hF), by simp⟩)) (by simp; omega) (by simp) (hO.fr0 hF)).mono ?_
    rintro _ w15_ ⟨rfl, hF15_⟩
    replace hF := hF.fr0 hF15_
    replace hB14 := hB14.fr0 hF15_
    clear hF15_
    refine ⟨_, rfl, ?_⟩
    refine Ops_step (R_move rfl) rfl rfl ?_
    refine Ops_step (R_move rfl) rfl rfl ?_
    refine Ops_call (C_func TWv.bd23 rfl) rfl rfl ?_
    refine (rkeyed_any _ a _ _ _ _ _ _ _ (by rfl) (by rfl) (hR0.fr0 hF) (by omega) (hR1.fr0 hF) (by omega)).mono ?_
    rintro _ w18_ ⟨rfl, hF18_⟩
    replace hF := hF.fr0 hF18_
    clear hF18_
    refine ⟨_, rfl, ?_⟩
    refine Ops_step (R_neqArr8 TWv.a8_30 rfl rfl TWv.gg_30 (keyed_len _ _) (keyed_len _ _)) rfl rfl ?_
    refine Ops_nil ?_
    refine then_n (hK7_ _ _ ?_)
    clear hK7_ K7_
    refine W_keepB [0, 1, 19] fun B8 hB8_ => ?_
    simp only [pickE, lookE, putE, zipE, args0, Nat.reduceAdd, Nat.zero_add, List.cons_append, List.nil_append, Nat.reduceBEq, cond_true, cond_false] at hB8_
    subst hB8_
    refine W_no rfl (by simp) ?_
    refine W_skip ?_
    refine then_n (hK6_ _ _ ?_)
    clear hK6_ K6_
    refine W_seq_k fun K9_ hK9_ => ?_
    refine W_region [some 21, some 22, some 20, some 23, some 24, some 5, some 6] rfl ?_
    refine Ops_step (R_move rfl) rfl rfl ?_
    refine Ops_call (C_func TWv.bd24 rfl) rfl rfl ?_
    refine (under_bad _ _ _ _ hl).mono ?_
    rintro _ _ ⟨rfl, rfl⟩
    refine ⟨_, rfl, ?_⟩
    refine Ops_step (R_move rfl) rfl rfl ?_
    refine Ops_step (R_extract rfl rfl) rfl rfl ?_
    refine Ops_step (R_extract rfl rfl) rfl rfl ?_
    refine Ops_step (R_assign rfl) rfl rfl ?_
    refine Ops_step (R_assign rfl) rfl rfl ?_
    refine Ops_nil ?_
    refine then_n (hK9_ _ _ ?_)
    clear hK9_ K9_
    refine W_keepB [0, 1, 5, 6] fun B10 hB10_ => ?_
    simp only [pickE, lookE, putE, zipE, args0, Nat.reduceAdd, Nat.zero_add, List.cons_append, List.nil_append, Nat.reduceBEq, cond_true, cond_false] at hB10_
    subst hB10_
    refine W_seq_k fun K11_ hK11_ => ?_
    refine W_seq_k fun K12_ hK12_ => ?_
    refine W_region [some 25, some 26, some 27, some 28, some 29, some 30, some 31, some 32] rfl ?_
    refine Ops_step (R_move rfl) rfl rfl ?_
    refine Ops_step (R_len Tryd.underlying22 rfl rfl) rfl rfl ?_
    refine Ops_step (R_lss rfl rfl) rfl rfl ?_
    refine Ops_step (R_move rfl) rfl rfl ?_
    refine Ops_split 28 rfl (fun hg28 => ?_) (fun hg28 => ?_)
    · refine Ops_pass rfl rfl ?_
      refine Ops_pass rfl rfl ?_
      refine Ops_pass rfl rfl ?_
      refine Ops_step (R_pick_true rfl rfl) rfl rfl ?_
      refine Ops_nil ?_
      refine then_n (hK12_ _ _ ?_)
      clear hK12_ K12_
      refine W_keepB [0, 1, 5, 6, 32] fun B13 hB13_ => ?_
      simp only [pickE, lookE, putE, zipE, args0, Nat.reduceAdd, Nat.zero_add, List.cons_append, List.nil_append, Nat.reduceBEq, cond_true, cond_false] at hB13_
      subst hB13_
      refine W_cond_true rfl ?_
      refine W_seq_k fun K14_ hK14_ => ?_
      refine W_region [some 33, some 34, some 35, some 36, some 37, some 38, some 39, some 40, some 41, some 4] rfl ?_
      refine Ops_step (R_move rfl) rfl rfl ?_
      refine Ops_step (R_ptrNil Tryd.underlying25 rfl rfl) rfl rfl ?_
      refine Ops_step (R_move rfl) rfl rfl ?_
      refine Ops_step (R_move rfl) rfl rfl ?_
      refine Ops_step (R_eql rfl rfl) rfl rfl ?_
      refine Ops_step (R_pick_true rfl rfl) rfl rfl ?_
      refine Ops_step (R_move rfl) rfl rfl ?_
      refine Ops_known (b := true) 39 rfl (decide_eq_true rfl) ?_
      refine Ops_call (C_func TWv.bd13 rfl) rfl rfl ?_
      refine (awake_any _ (hO.fr0 hF)).mono ?_
      rintro _ w40_ ⟨rfl, hF40_⟩
      replace hF := hF.fr0 hF40_
      clear hF40_
      refine ⟨_, rfl, ?_⟩
      refine Ops_step (R_pick_true rfl rfl) rfl rfl ?_
      refine Ops_step (R_assign rfl) rfl rfl ?_
      refine Ops_nil ?_
      refine then_n (hK14_ _ _ ?_)
      clear hK14_ K14_
      refine W_keepB [4] fun B15 hB15_ => ?_
      simp only [pickE, lookE, putE, zipE, args0, Nat.reduceAdd, Nat.zero_add, List.cons_append, List.nil_append, Nat.reduceBEq, cond_true, cond_false] at hB15_
      subst hB15_
      refine W_ret ?_
      refine then_ret ?_
      clear hK11_ K11_
      refine ⟨_, ⟨_, _, rfl, rfl, rfl⟩, ?_⟩
      exact ⟨rfl, hF⟩
    · refine Ops_step (R_move rfl) rfl rfl ?_
      refine Ops_step (R_len Tryd.underlying22 rfl rfl) rfl rfl ?_
      refine Ops_step (R_gtr rfl rfl) rfl rfl ?_
      refine Ops_step (R_pick_false rfl rfl) rfl rfl ?_
      refine Ops_nil ?_
      refine then_n (hK12_ _ _ ?_)
      clear hK12_ K12_
      refine W_keepB [0, 1, 5, 6, 32] fun B16 hB16_ => ?_
      simp only [pickE, lookE, putE, zipE, args0, Nat.reduceAdd, Nat.zero_add, List.cons_append, List.nil_append, Nat.reduceBEq, cond_true, cond_false] at hB16_
      subst hB16_
      refine W_if rfl (fun hc32 => ?_) (fun hc32 => ?_)
      · refine W_seq_k fun K17_ hK17_ => ?_
        refine W_region [some 33, some 34, some 35, some 36, some 37, some 38, some 39, some 40, some 41, some 4] rfl ?_
        refine Ops_step (R_move rfl) rfl rfl ?_
        refine Ops_step (R_ptrNil Tryd.underlying25 rfl rfl) rfl rfl ?_
        refine Ops_step (R_move rfl) rfl rfl ?_
        refine Ops_step (R_move rfl) rfl rfl ?_
        refine Ops_step (R_eql rfl rfl) rfl rfl ?_
        refine Ops_step (R_pick_true rfl rfl) rfl rfl ?_
        refine Ops_step (R_move rfl) rfl rfl ?_
        refine Ops_known (b := true) 39 rfl (decide_eq_true rfl) ?_
        refine Ops_call (C_func TWv.bd13 rfl) rfl rfl ?_
        refine (awake_any _ (hO.fr0 hF)).mono ?_
        rintro _ w40_ ⟨rfl, hF40_⟩
        replace hF := hF.fr0 hF40_
        clear hF40_
        refine ⟨_, rfl, ?_⟩
        refine Ops_step (R_pick_true rfl rfl) rfl rfl ?_
        refine Ops_step (R_assign rfl) rfl rfl ?_
        refine Ops_nil ?_
        refine then_n (hK17_ _ _ ?_)
        clear hK17_ K17_
        refine W_keepB [4] fun B18 hB18_ => ?_
        simp only [pickE, lookE, putE, zipE, args0, Nat.reduceAdd, Nat.zero_add, List.cons_append, List.nil_append, Nat.reduceBEq, cond_true, cond_false] at hB18_
        subst hB18_
        refine W_ret ?_
        refine then_ret ?_
        clear hK11_ K11_
        refine ⟨_, ⟨_, _, rfl, rfl, rfl⟩, ?_⟩
        exact ⟨rfl, hF⟩
      · exact absurd hc32 (by omega)

theorem law_keyed (A0 : Option Addr) (c0 : Nat) (a : List UInt8) (A1 : Option Addr) (c1 : Nat) (b : List UInt8) (w : World) (hR0 : Rd w A0 (a.map vb)) (hl0 : a.length ≤ 140737488351232) (hR1 : Rd w A1 (b.map vb)) (hl1 : b.length ≤ 140737488351232) (hO : Rd w (some ⟨0, 0, none⟩) ordC) :
    Calls Tryd.prog 7 #[.slice A0 a.length c0, .slice A1 b.length c1] w fun e w2 => e = .returned (.bool true) ∧ Fr [] w w2 := by
  by_cases hl : 1 ≤ a.length ∧ a.length ≤ 32
  · exact law_keyed_in A0 c0 a A1 c1 b w hR0 hl0 hR1 hl1 hl hO
  · exact law_keyed_bad A0 c0 a A1 c1 b w hR0 hl0 hR1 hl1 hl hO

end Go.Proofs.YtghfohhekhedaaaDoor
