/- What the walks of this seat show of Wm. -/
import Derived.Test.YtghfohhekhedaaaDoorWh
import Derived.Test.YtghfohhekhedaaaDoorProg
set_option linter.unusedVariables false
set_option linter.unusedSimpArgs false
namespace Go.Proofs.YtghfohhekhedaaaDoor
open Go Go.Sx

namespace TWm
theorem hm : Tryd.prog.follows .mixedOrders = true := by kernel_rfl
theorem a8_30 : Arr8 Tryd.prog 30 32 := ⟨_, Tryd.underlying30, by kernel_rfl, by kernel_rfl, Tryd.underlying5, by kernel_rfl⟩
theorem ag36 : aggB Tryd.prog 36 = some true := by kernel_rfl
theorem ag5 : aggB Tryd.prog 5 = some false := by kernel_rfl
theorem bd12 : bodied Tryd.prog 12 = true := by kernel_rfl
theorem bd13 : bodied Tryd.prog 13 = true := by kernel_rfl
theorem bd14 : bodied Tryd.prog 14 = true := by kernel_rfl
theorem bd15 : bodied Tryd.prog 15 = true := by kernel_rfl
theorem bd16 : bodied Tryd.prog 16 = true := by kernel_rfl
theorem bd18 : bodied Tryd.prog 18 = true := by kernel_rfl
theorem bd19 : bodied Tryd.prog 19 = true := by kernel_rfl
theorem el53 : Elem Tryd.prog 53 22 1 24 := Elem.of (by kernel_rfl)
theorem gg_30 : Tryd.prog.eqGuardType Tryd.prog.depth 30 = false := by kernel_rfl
theorem sz36 : sz Tryd.prog 36 = some 8 := by kernel_rfl
theorem sz5 : sz Tryd.prog 5 = some 1 := by kernel_rfl
theorem zr22 : zr Tryd.prog 22 = some ([.slice none 0 0]) := by kernel_rfl
end TWm
set_option maxHeartbeats 4000000 in
theorem law_kept (A0 : Option Addr) (c0 : Nat) (a : List UInt8) (A1 : Option Addr) (c1 : Nat) (b : List UInt8) (w : World) (hR0 : Rd w A0 (a.map vb)) (hl0 : a.length ≤ 140737488351232) (hR1 : Rd w A1 (b.map vb)) (hl1 : b.length ≤ 140737488351232) (hO : Rd w (some ⟨0, 0, none⟩) ordC) :
    Calls Tryd.prog 5 #[.slice A0 a.length c0, .slice A1 b.length c1] w fun e w2 => e = .returned (.bool true) ∧ Fr [] w w2 := by
  have hF := Fr.refl [] w
  have sO := hO.ltO
  refine calls_W 46 Tryd.func5 rfl Tryd.ntmps5 rfl [.tmp 4] rfl ?_
  refine W_seq_k fun K1_ hK1_ => ?_
  refine W_region [some 4] rfl ?_
  refine Ops_step (R_assign rfl) rfl rfl ?_
  refine Ops_nil ?_
  refine then_n (hK1_ _ _ ?_)
  clear hK1_ K1_
  refine W_seq_k fun K2_ hK2_ => ?_
  refine W_seq_k fun K3_ hK3_ => ?_
  refine W_region [some 8, some 9, some 10, some 11] rfl ?_
  refine Ops_step (R_move rfl) rfl rfl ?_
  refine Ops_step (R_move rfl) rfl rfl ?_
  have hz10_hF := hF.size
  refine Ops_to (R_buildSlice TWm.el53 TWm.zr22 (by decide) (by decide) rfl rfl) rfl rfl ?_
  rintro _ w10_ ⟨b10, rfl, hb10, hB10, hF10_⟩
  have hl10 := hB10.lt
  replace hF := hF.fr0 hF10_
  clear hF10_
  refine Ops_call (C_func TWm.bd12 rfl) rfl rfl ?_
  refine (long_any _ [a, b] _ _ (RdLL.lit hB10 [a, b] [(A0, c0), (A1, c1)] rfl rfl (by simp only [List.zip_cons_cons, List.zip_nil_right, List.forall_mem_cons]; exact ⟨(hR0.fr0 hF), (hR1.fr0 hF), by simp⟩)) (by simp)).mono ?_
  rintro _ _ ⟨r11, rfl, hr11, rfl⟩
  refine ⟨_, rfl, ?_⟩
  refine Ops_nil ?_
  refine then_n (hK3_ _ _ ?_)
  clear hK3_ K3_
  refine W_cond rfl (fun hc11 => ?_) (fun hc11 => ?_)
  · refine W_seq_k fun K4_ hK4_ => ?_
    refine W_region [some 12, some 4] rfl ?_
    refine Ops_call (C_func TWm.bd13 rfl) rfl rfl ?_
    refine (awake_any _ (hO.fr0 hF)).mono ?_
    rintro _ w12_ ⟨rfl, hF12_⟩
    replace hF := hF.fr0 hF12_
    clear hF12_
    refine ⟨_, rfl, ?_⟩
    refine Ops_step (R_assign rfl) rfl rfl ?_
    refine Ops_nil ?_
    refine then_n (hK4_ _ _ ?_)
    clear hK4_ K4_
    refine W_keepB [4] fun B5 hB5_ => ?_
    simp only [pickE, lookE, putE, zipE, args0, Nat.reduceAdd, Nat.zero_add, List.cons_append, List.nil_append, Nat.reduceBEq, cond_true, cond_false] at hB5_
    subst hB5_
    refine W_ret ?_
    refine then_ret ?_
    clear hK2_ K2_
    refine ⟨_, ⟨_, _, rfl, rfl, rfl⟩, ?_⟩
    exact ⟨rfl, hF⟩
  · obtain ⟨_, hs_⟩ := hr11 hc11
    have hs0 : a.length ≤ 4096 := hs_ _ (by simp)
    have hs1 : b.length ≤ 4096 := hs_ _ (by simp)
    refine W_skip ?_
    refine then_n (hK2_ _ _ ?_)
    clear hK2_ K2_
    refine W_seq_k fun K6_ hK6_ => ?_
    refine W_region [some 13, some 14, some 5] rfl ?_
    refine Ops_step (R_move rfl) rfl rfl ?_
    have hz14 := hF.size
    refine Ops_call (C_func TWm.bd19 rfl) rfl rfl ?_
    refine (sclone_any _ _ _ _ _ rfl (hR0.fr0 hF) (by omega)).mono ?_
    rintro _ w14_ ⟨A14, c14, rfl, hQ14, hF14_⟩
    replace hF := hF.fr0 hF14_
    clear hF14_
    replace hQ14 := hQ14.le hz14
    refine ⟨_, rfl, ?_⟩
    refine Ops_step (R_assign rfl) rfl rfl ?_
    refine Ops_nil ?_
    refine then_n (hK6_ _ _ ?_)
    clear hK6_ K6_
    refine W_keepB [0, 1, 5] fun B7 hB7_ => ?_
    simp only [pickE, lookE, putE, zipE, args0, Nat.reduceAdd, Nat.zero_add, List.cons_append, List.nil_append, Nat.reduceBEq, cond_true, cond_false] at hB7_
    subst hB7_
    refine W_seq_k fun K8_ hK8_ => ?_
    refine W_region [some 15, some 6] rfl ?_
    have hlq := hQ14.lt
    have hz15_hF := hF.size
    have hn15_hQ14 := hQ14.lt
    refine Ops_call (C_func TWm.bd14 rfl) rfl rfl ?_
    refine (new_any _).mono ?_
    rintro _ w15_ ⟨d15, rfl, hD15, hF15_⟩
    replace hF := hF.fr0 hF15_
    replace hQ14 := hQ14.fr0 hF15_
    clear hF15_
    refine Exists.elim hD15.name fun B15 h_ => ?_
    clear hD15
    have hBe15 := h_.1
    have hD15 := h_.2
    clear h_
    have hge15 := hD15.ge
    refine ⟨_, rfl, ?_⟩
    refine Ops_step (R_assign rfl) rfl rfl ?_
    refine Ops_nil ?_
    refine then_n (hK8_ _ _ ?_)
    clear hK8_ K8_
    refine W_seq_k fun K9_ hK9_ => ?_
    refine W_region [some 16, some 17, some 18, some 19] rfl ?_
    refine Ops_step (R_move rfl) rfl rfl ?_
    refine Ops_step (R_move rfl) rfl rfl ?_
    have hz18_hF := hF.size
    have hn18_hQ14 := hQ14.lt
    have hn18_hD15 := hD15.lt
    refine Ops_to (R_buildSlice TWm.el53 TWm.zr22 (by decide) (by decide) rfl rfl) rfl rfl ?_
    rintro _ w18_ ⟨b18, rfl, hb18, hB18, hF18_⟩
    have hl18 := hB18.lt
    replace hF := hF.fr0 hF18_
    replace hQ14 := hQ14.fr0 hF18_
    replace hD15 := hD15.fr0 hF18_
    clear hF18_
    have hs19_ := hF.size
    have hd19_ := hD15
    have hw19_ := hD15.lt
    refine Ops_call (C_func TWm.bd15 rfl) rfl rfl ?_
    refine (add_any _ _ _ _ [a] _ _ hD15 (RdL.lit hB18 (by omega) [a] [(A14, c14)] rfl rfl (by simp only [List.zip_cons_cons, List.zip_nil_right, List.forall_mem_cons]; exact ⟨(RdX.of hQ14.rd hlq (by omega)), by simp⟩)) (by simp only [List.forall_mem_cons]; refine ⟨by omega, by simp⟩) (by simp) (by omega) (hO.fr0 hF) (by omega)).mono ?_
    rintro _ w19_ ⟨rfl, hD15, hF19_⟩
    replace hF := hF.then hF19_ (by simp only [List.mem_singleton]; omega)
    replace hQ14 := hQ14.fr hF19_ (own_notin hlq (by simp only [List.mem_singleton]; omega))
    replace hB18 := hB18.fr hF19_ (by simp only [List.mem_cons, List.not_mem_nil, or_false]; omega)
    clear hF19_
    refine ⟨_, rfl, ?_⟩
    refine Ops_nil ?_
    refine then_n (hK9_ _ _ ?_)
    clear hK9_ K9_
    refine W_seq_k fun K10_ hK10_ => ?_
    refine W_seq_k fun K11_ hK11_ => ?_
    refine W_region [some 20, some 21, some 22] rfl ?_
    refine Ops_step (R_move rfl) rfl rfl ?_
    refine Ops_step (R_len Tryd.underlying22 rfl rfl) rfl rfl ?_
    refine Ops_step (R_move rfl) rfl rfl ?_
    refine Ops_nil ?_
    refine then_n (hK11_ _ _ ?_)
    clear hK11_ K11_
    refine W_keepB [0, 1, 5, 6, 21, 22] fun B12 hB12_ => ?_
    simp only [pickE, lookE, putE, zipE, args0, Nat.reduceAdd, Nat.zero_add, List.cons_append, List.nil_append, Nat.reduceBEq, cond_true, cond_false] at hB12_
    subst hB12_
    refine W_block ?_
    refine W_loopB [0, 1, 5, 6, 21] [22] (fun m vs w' => ∃ i xs, i ≤ a.length ∧ m = a.length - i ∧ vs = [vi (i : Nat)] ∧ List.length xs = a.length ∧ OwnB w' w.heap.size 5 A14 c14 xs ∧ Dig w' B15 d15 (List.foldl Bl.add (Bl.begin_ []) [a]) ∧ Fr [] w w') (a.length) _ rfl (⟨0, a, by omega, rfl, rfl, rfl, hQ14, hD15, hF⟩) fun B13 hB13_ => ?_
    simp only [pickE, lookE, putE, zipE, args0, Nat.reduceAdd, Nat.zero_add, List.cons_append, List.nil_append, Nat.reduceBEq, cond_true, cond_false] at hB13_
    subst hB13_
    clear hQ14 hD15 hF
    rintro m_ vs_ w0_ ⟨i, xs, hi, rfl, rfl, hxl, hQ14, hD15, hF⟩
    refine W_seq_k fun K14_ hK14_ => ?_
    refine W_region [some 23] rfl ?_
    refine Ops_step (R_lss rfl rfl) rfl rfl ?_
    refine Ops_nil ?_
    refine then_n (hK14_ _ _ ?_)
    clear hK14_ K14_
    refine W_seq_k fun K15_ hK15_ => ?_
    refine W_if rfl (fun hc23 => ?_) (fun hc23 => ?_)
    · refine W_skip ?_
      refine then_n (hK15_ _ _ ?_)
      clear hK15_ K15_
      refine W_seq_k fun K16_ hK16_ => ?_
      refine W_block ?_
      refine W_seq_k fun K17_ hK17_ => ?_
      refine W_region [some 24, some 7] rfl ?_
      refine Ops_step (R_move rfl) rfl rfl ?_
      refine Ops_step (R_assign rfl) rfl rfl ?_
      refine Ops_nil ?_
      refine then_n (hK17_ _ _ ?_)
      clear hK17_ K17_
      refine W_region [some 25, some 26, some 27, some 28, some 29, some 30, none] rfl ?_
      refine Ops_step (R_move rfl) rfl rfl ?_
      refine Ops_step (R_move rfl) rfl rfl ?_
      refine Ops_step (R_indexSl Tryd.underlying22 TWm.sz5 rfl rfl (by omega) (by omega) (Rd.some hQ14.rd (by omega))) rfl rfl ?_
      refine Ops_step (R_load TWm.ag5 rfl (hQ14.rd.atB (i := i) (by omega))) rfl rfl ?_
      refine Ops_step (R_xor rfl rfl (xor8 _ 255)) rfl rfl ?_
      refine Ops_step (R_indexSl Tryd.underlying22 TWm.sz5 rfl rfl (by omega) (by omega) (Rd.some hQ14.rd (by omega))) rfl rfl ?_
      have hof := hQ14.off
      refine Ops_to0 (R_storeOwnB TWm.sz5 rfl rfl hQ14 (by omega)) rfl ?_
      clear hQ14
      rintro _ wst_ ⟨hQ14, hFst_⟩
      replace hF := hF.then hFst_ (fun i_ hi_ hj_ => absurd (hof i_ hi_) (by omega))
      replace hD15 := hD15.fr hFst_ (digLow hlq (by omega) (by omega))
      clear hFst_
      refine Ops_nil ?_
      refine block_n ?_
      refine then_n (hK16_ _ _ ?_)
      clear hK16_ K16_
      refine W_keepB [0, 1, 5, 6, 21, 22] fun B19 hB19_ => ?_
      simp only [pickE, lookE, putE, zipE, args0, Nat.reduceAdd, Nat.zero_add, List.cons_append, List.nil_append, Nat.reduceBEq, cond_true, cond_false] at hB19_
      subst hB19_
      refine W_region [some 31, some 22] rfl ?_
      refine Ops_step (R_add rfl rfl (wIc (n := i + 1) (by omega) (by omega))) rfl rfl ?_
      refine Ops_step (R_move rfl) rfl rfl ?_
      refine Ops_nil ?_
      exact ⟨a.length - (i + 1), _, by omega, rfl, ⟨i + 1, _, by omega, rfl, rfl, (by rw [List.length_set]; exact hxl), hQ14, hD15, hF⟩, ⟨rfl, rfl, rfl, rfl, rfl, trivial⟩⟩
    · refine W_exit ?_
      refine then_exit ?_
      clear hK15_ K15_
      refine then_exit ?_
      refine block_exit ?_
      refine then_n (hK10_ _ _ ?_)
      clear hK10_ K10_
      refine W_seq_k fun K20_ hK20_ => ?_
      refine W_region [some 32, some 33, some 34, some 35] rfl ?_
      refine Ops_step (R_move rfl) rfl rfl ?_
      refine Ops_step (R_move rfl) rfl rfl ?_
      have hz34_hF := hF.size
      have hn34_hQ14 := hQ14.lt
      have hn34_hD15 := hD15.lt
      refine Ops_to (R_buildSlice TWm.el53 TWm.zr22 (by decide) (by decide) rfl rfl) rfl rfl ?_
      rintro _ w34_ ⟨b34, rfl, hb34, hB34, hF34_⟩
      have hl34 := hB34.lt
      replace hF := hF.fr0 hF34_
      replace hQ14 := hQ14.fr0 hF34_
      replace hD15 := hD15.fr0 hF34_
      clear hF34_
      have hs35_ := hF.size
      have hd35_ := hD15
      have hw35_ := hD15.lt
      refine Ops_call (C_func TWm.bd15 rfl) rfl rfl ?_
      refine (add_any _ _ _ _ [b] _ _ hD15 (RdL.lit hB34 (by omega) [b] [(A1, c1)] rfl rfl (by simp only [List.zip_cons_cons, List.zip_nil_right, List.forall_mem_cons]; exact ⟨(RdX.old hR1 hF (by omega)), by simp⟩)) (by simp only [List.forall_mem_cons]; refine ⟨by omega, by simp⟩) (by simp) (by omega) (hO.fr0 hF) (by omega)).mono ?_
      rintro _ w35_ ⟨rfl, hD15, hF35_⟩
      replace hF := hF.then hF35_ (by simp only [List.mem_singleton]; omega)
      replace hQ14 := hQ14.fr hF35_ (own_notin hlq (by simp only [List.mem_singleton]; omega))
      replace hB34 := hB34.fr hF35_ (by simp only [List.mem_cons, List.not_mem_nil, or_false]; omega)
      clear hF35_
      refine ⟨_, rfl, ?_⟩
      refine Ops_nil ?_
      refine then_n (hK20_ _ _ ?_)
      clear hK20_ K20_
      refine W_keepB [0, 1, 6] fun B21 hB21_ => ?_
      simp only [pickE, lookE, putE, zipE, args0, Nat.reduceAdd, Nat.zero_add, List.cons_append, List.nil_append, Nat.reduceBEq, cond_true, cond_false] at hB21_
      subst hB21_
      refine W_seq_k fun K22_ hK22_ => ?_
      refine W_region [some 36, some 37, some 38, some 39, some 40, some 41, some 42, some 43, some 44, some 45, some 4] rfl ?_
      refine Ops_step (R_move rfl) rfl rfl ?_
      refine Ops_call (C_func TWm.bd16 rfl) rfl rfl ?_
      refine (sum_any _ _ _ _ hD15 (hO.fr0 hF)).mono ?_
      rintro _ w37_ ⟨rfl, hF37_⟩
      replace hF := hF.fr0 hF37_
      replace hD15 := hD15.fr0 hF37_
      clear hF37_
      refine ⟨_, rfl, ?_⟩
      refine Ops_step (R_move rfl) rfl rfl ?_
      refine Ops_step (R_move rfl) rfl rfl ?_
      have hz40_hF := hF.size
      have hn40_hD15 := hD15.lt
      refine Ops_to (R_buildSlice TWm.el53 TWm.zr22 (by decide) (by decide) rfl rfl) rfl rfl ?_
      rintro _ w40_ ⟨b40, rfl, hb40, hB40, hF40_⟩
      have hl40 := hB40.lt
      replace hF := hF.fr0 hF40_
      replace hD15 := hD15.fr0 hF40_
      clear hF40_
      refine Ops_call (C_func TWm.bd18 rfl) rfl rfl ?_
      refine (of_any _ [a, b] _ _ (RdLL.lit hB40 [a, b] [(A0, c0), (A1, c1)] rfl rfl (by simp only [List.zip_cons_cons, List.zip_nil_right, List.forall_mem_cons]; exact ⟨(hR0.fr0 hF), (hR1.fr0 hF), by simp⟩)) (by simp only [List.forall_mem_cons]; refine ⟨by omega, by omega, by simp⟩) (by simp) (hO.fr0 hF)).mono ?_
      rintro _ w41_ ⟨rfl, hF41_⟩
      replace hF := hF.fr0 hF41_
      replace hD15 := hD15.fr0 hF41_
      replace hB40 := hB40.fr0 hF41_
      clear hF41_
      refine ⟨_, rfl, ?_⟩
      refine Ops_step (R_eqlArr8 TWm.a8_30 rfl rfl TWm.gg_30 (sum_len _) (by rw [Bl.of]; exact sum_len _)) rfl rfl ?_
      refine Ops_step (R_move rfl) rfl rfl ?_
      refine Ops_known (b := true) 43 rfl (decide_eq_true rfl) ?_
      refine Ops_call (C_func TWm.bd13 rfl) rfl rfl ?_
      refine (awake_any _ (hO.fr0 hF)).mono ?_
      rintro _ w44_ ⟨rfl, hF44_⟩
      replace hF := hF.fr0 hF44_
      replace hD15 := hD15.fr0 hF44_
      clear hF44_
      refine ⟨_, rfl, ?_⟩
      refine Ops_step (R_pick_true rfl rfl) rfl rfl ?_
      refine Ops_step (R_assign rfl) rfl rfl ?_
      refine Ops_nil ?_
      refine then_n (hK22_ _ _ ?_)
      clear hK22_ K22_
      refine W_keepB [4] fun B23 hB23_ => ?_
      simp only [pickE, lookE, putE, zipE, args0, Nat.reduceAdd, Nat.zero_add, List.cons_append, List.nil_append, Nat.reduceBEq, cond_true, cond_false] at hB23_
      subst hB23_
      refine W_ret ?_
      refine ⟨_, ⟨_, _, rfl, rfl, rfl⟩, ?_⟩
      exact ⟨rfl, hF⟩

end Go.Proofs.YtghfohhekhedaaaDoor
