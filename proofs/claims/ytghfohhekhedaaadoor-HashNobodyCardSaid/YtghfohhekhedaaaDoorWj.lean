/- What the walks of this seat show of Wj. -/
import Derived.Test.YtghfohhekhedaaaDoorWi
import Derived.Test.YtghfohhekhedaaaDoorProg
set_option linter.unusedVariables false
set_option linter.unusedSimpArgs false
namespace Go.Proofs.YtghfohhekhedaaaDoor
open Go Go.Sx

namespace TWj
theorem hm : Tryd.prog.follows .mixedOrders = true := by kernel_rfl
theorem a8_30 : Arr8 Tryd.prog 30 32 := ⟨_, Tryd.underlying30, by kernel_rfl, by kernel_rfl, Tryd.underlying5, by kernel_rfl⟩
theorem ag25 : aggB Tryd.prog 25 = some false := by kernel_rfl
theorem ag36 : aggB Tryd.prog 36 = some true := by kernel_rfl
theorem bd12 : bodied Tryd.prog 12 = true := by kernel_rfl
theorem bd13 : bodied Tryd.prog 13 = true := by kernel_rfl
theorem bd15 : bodied Tryd.prog 15 = true := by kernel_rfl
theorem bd16 : bodied Tryd.prog 16 = true := by kernel_rfl
theorem bd17 : bodied Tryd.prog 17 = true := by kernel_rfl
theorem el40 : Elem Tryd.prog 40 25 1 8 := Elem.of (by kernel_rfl)
theorem el53 : Elem Tryd.prog 53 22 1 24 := Elem.of (by kernel_rfl)
theorem gg_30 : Tryd.prog.eqGuardType Tryd.prog.depth 30 = false := by kernel_rfl
theorem pl30 : partPl Tryd.prog 30 = some [(0, 1), (1, 1), (2, 1), (3, 1), (4, 1), (5, 1), (6, 1), (7, 1), (8, 1), (9, 1), (10, 1), (11, 1), (12, 1), (13, 1), (14, 1), (15, 1), (16, 1), (17, 1), (18, 1), (19, 1), (20, 1), (21, 1), (22, 1), (23, 1), (24, 1), (25, 1), (26, 1), (27, 1), (28, 1), (29, 1), (30, 1), (31, 1)] := by kernel_rfl
theorem pl39 : partPl Tryd.prog 39 = some [(0, 8), (8, 1), (9, 1), (10, 1)] := by kernel_rfl
theorem sz25 : sz Tryd.prog 25 = some 1 := by kernel_rfl
theorem sz36 : sz Tryd.prog 36 = some 8 := by kernel_rfl
theorem zr22 : zr Tryd.prog 22 = some ([.slice none 0 0]) := by kernel_rfl
theorem zr25 : zr Tryd.prog 25 = some ([.pointer none]) := by kernel_rfl
theorem zr30 : zr Tryd.prog 30 = some (List.replicate 32 (.int .u8 0)) := by kernel_rfl
theorem zr39 : zr Tryd.prog 39 = some (List.replicate 8 (.int .u32 0) ++ [.slice none 0 0] ++ [.int .u64 0] ++ [.bool false]) := by kernel_rfl
end TWj
set_option maxHeartbeats 4000000 in
theorem law_nobody (A0 : Option Addr) (c0 : Nat) (a : List UInt8) (w : World) (hR0 : Rd w A0 (a.map vb)) (hl0 : a.length ≤ 140737488351232) (hO : Rd w (some ⟨0, 0, none⟩) ordC) :
    Calls Tryd.prog 4 #[.slice A0 a.length c0] w fun e w2 => e = .returned (.bool true) ∧ Fr [] w w2 := by
  have hF := Fr.refl [] w
  refine calls_W 35 Tryd.func4 rfl Tryd.ntmps4 rfl [.tmp 2] rfl ?_
  refine W_seq_k fun K1_ hK1_ => ?_
  refine W_region [some 2] rfl ?_
  refine Ops_step (R_assign rfl) rfl rfl ?_
  refine Ops_nil ?_
  refine then_n (hK1_ _ _ ?_)
  clear hK1_ K1_
  refine W_seq_k fun K2_ hK2_ => ?_
  refine W_seq_k fun K3_ hK3_ => ?_
  refine W_region [some 5, some 6, some 7] rfl ?_
  refine Ops_step (R_move rfl) rfl rfl ?_
  have hz6_hF := hF.size
  refine Ops_to (R_buildSlice TWj.el53 TWj.zr22 (by decide) (by decide) rfl rfl) rfl rfl ?_
  rintro _ w6_ ⟨b6, rfl, hb6, hB6, hF6_⟩
  have hl6 := hB6.lt
  replace hF := hF.fr0 hF6_
  clear hF6_
  refine Ops_call (C_func TWj.bd12 rfl) rfl rfl ?_
  refine (long_any _ [a] _ _ (RdLL.lit hB6 [a] [(A0, c0)] rfl rfl (by simp only [List.zip_cons_cons, List.zip_nil_right, List.forall_mem_cons]; exact ⟨(hR0.fr0 hF), by simp⟩)) (by simp)).mono ?_
  rintro _ _ ⟨r7, rfl, hr7, rfl⟩
  refine ⟨_, rfl, ?_⟩
  refine Ops_nil ?_
  refine then_n (hK3_ _ _ ?_)
  clear hK3_ K3_
  refine W_cond rfl (fun hc7 => ?_) (fun hc7 => ?_)
  · refine W_seq_k fun K4_ hK4_ => ?_
    refine W_region [some 8, some 2] rfl ?_
    refine Ops_call (C_func TWj.bd13 rfl) rfl rfl ?_
    refine (awake_any _ (hO.fr0 hF)).mono ?_
    rintro _ w8_ ⟨rfl, hF8_⟩
    replace hF := hF.fr0 hF8_
    clear hF8_
    refine ⟨_, rfl, ?_⟩
    refine Ops_step (R_assign rfl) rfl rfl ?_
    refine Ops_nil ?_
    refine then_n (hK4_ _ _ ?_)
    clear hK4_ K4_
    refine W_ret ?_
    refine then_ret ?_
    clear hK2_ K2_
    refine ⟨_, ⟨_, _, rfl, rfl, rfl⟩, ?_⟩
    exact ⟨rfl, hF⟩
  · refine W_skip ?_
    refine then_n (hK2_ _ _ ?_)
    clear hK2_ K2_
    refine W_seq_k fun K5_ hK5_ => ?_
    refine W_seq_k fun K6_ hK6_ => ?_
    refine W_region [some 9, some 10, some 11, some 12, some 13] rfl ?_
    refine Ops_step (R_build (pl := []) (cs := unC) TWj.zr39 TWj.pl39 rfl rfl (by kernel_rfl)) rfl rfl ?_
    have hz10_hF := hF.size
    refine Ops_to (R_box rfl) rfl rfl ?_
    rintro _ w10_ ⟨b10, rfl, hb10, hB10, hF10_⟩
    have hl10 := hB10.lt
    replace hF := hF.fr0 hF10_
    clear hF10_
    replace hB10 : Blk _ b10 39 unC := hB10
    have hz11_hF := hF.size
    have hn11_hB10 := hB10.lt
    refine Ops_to (R_buildSlice TWj.el40 TWj.zr25 (by decide) (by decide) rfl rfl) rfl rfl ?_
    rintro _ w11_ ⟨b11, rfl, hb11, hB11, hF11_⟩
    have hl11 := hB11.lt
    replace hF := hF.fr0 hF11_
    replace hB10 := hB10.fr0 hF11_
    clear hF11_
    replace hB11 : Blk _ b11 25 [.pointer none, .pointer (some ⟨b10, 0, none⟩)] := hB11
    refine Ops_step (R_len Tryd.underlying40 rfl rfl) rfl rfl ?_
    refine Ops_step (R_move rfl) rfl rfl ?_
    refine Ops_nil ?_
    refine then_n (hK6_ _ _ ?_)
    clear hK6_ K6_
    refine W_keepB [0, 11, 12, 13] fun B7 hB7_ => ?_
    simp only [pickE, lookE, putE, zipE, args0, Nat.reduceAdd, Nat.zero_add, List.cons_append, List.nil_append, Nat.reduceBEq, cond_true, cond_false] at hB7_
    subst hB7_
    refine W_block ?_
    refine W_loopB [0, 11, 12] [13] (fun m vs w' => ∃ i, i ≤ 2 ∧ m = 2 - i ∧ vs = [vi (i : Nat)] ∧ Blk w' b11 25 [.pointer none, .pointer (some ⟨b10, 0, none⟩)] ∧ Blk w' b10 39 unC ∧ Fr [] w w') (2) _ rfl (⟨0, by omega, rfl, rfl, hB11, hB10, hF⟩) fun B8 hB8_ => ?_
    simp only [pickE, lookE, putE, zipE, args0, Nat.reduceAdd, Nat.zero_add, List.cons_append, List.nil_append, Nat.reduceBEq, cond_true, cond_false] at hB8_
    subst hB8_
    clear hB11 hB10 hF hB6
    rintro m_ vs_ w0_ ⟨i, hi, rfl, rfl, hB11, hB10, hF⟩
    refine W_seq_k fun K9_ hK9_ => ?_
    refine W_region [some 14] rfl ?_
    refine Ops_step (R_lss rfl rfl) rfl rfl ?_
    refine Ops_nil ?_
    refine then_n (hK9_ _ _ ?_)
    clear hK9_ K9_
    refine W_seq_k fun K10_ hK10_ => ?_
    refine W_if rfl (fun hc14 => ?_) (fun hc14 => ?_)
    · obtain ⟨p, hp, hn⟩ := nob_two hB11 hB10 (i := i) (by omega)
      refine W_skip ?_
      refine then_n (hK10_ _ _ ?_)
      clear hK10_ K10_
      refine W_seq_k fun K11_ hK11_ => ?_
      refine W_block ?_
      refine W_seq_k fun K12_ hK12_ => ?_
      refine W_region [some 15, some 16, some 4] rfl ?_
      refine Ops_step (R_indexSl Tryd.underlying40 TWj.sz25 rfl rfl (by omega) (by omega) rfl) rfl rfl ?_
      refine Ops_step (R_load TWj.ag25 rfl (hp)) rfl rfl ?_
      refine Ops_step (R_assign rfl) rfl rfl ?_
      refine Ops_nil ?_
      refine then_n (hK12_ _ _ ?_)
      clear hK12_ K12_
      refine W_seq_k fun K13_ hK13_ => ?_
      refine W_region [some 17, some 18, some 19, some 20, some 21, some 22, some 23, some 24, some 25, some 26, some 27, some 28, some 29, some 30, some 31, some 32] rfl ?_
      refine Ops_step (R_move rfl) rfl rfl ?_
      refine Ops_step (R_move rfl) rfl rfl ?_
      have hz19_hF := hF.size
      have hn19_hB11 := hB11.lt
      have hn19_hB10 := hB10.lt
      refine Ops_to (R_buildSlice TWj.el53 TWj.zr22 (by decide) (by decide) rfl rfl) rfl rfl ?_
      rintro _ w19_ ⟨b19, rfl, hb19, hB19, hF19_⟩
      have hl19 := hB19.lt
      replace hF := hF.fr0 hF19_
      replace hB11 := hB11.fr0 hF19_
      replace hB10 := hB10.fr0 hF19_
      replace hn := hn.fr0 hF19_
      clear hF19_
      refine Ops_call (C_func TWj.bd15 rfl) rfl rfl ?_
      refine (add_nob p _ _ hn).mono ?_
      rintro _ _ ⟨rfl, rfl⟩
      refine ⟨_, rfl, ?_⟩
      refine Ops_step (R_neq rfl rfl) rfl rfl ?_
      refine Ops_step (R_move rfl) rfl rfl ?_
      
      refine Ops_known (b := false) 22 rfl (by decide) ?_
      refine Ops_step (R_move rfl) rfl rfl ?_
      refine Ops_call (C_func TWj.bd16 rfl) rfl rfl ?_
      refine (sum_nob p _ hn).mono ?_
      rintro _ w24_ ⟨rfl, hF24_⟩
      replace hF := hF.fr0 hF24_
      replace hB11 := hB11.fr0 hF24_
      replace hB10 := hB10.fr0 hF24_
      replace hn := hn.fr0 hF24_
      replace hB19 := hB19.fr0 hF24_
      clear hF24_
      refine ⟨_, rfl, ?_⟩
      refine Ops_step (R_build (pl := []) (cs := (List.replicate 32 (0 : UInt8)).map vb) TWj.zr30 TWj.pl30 rfl rfl (by kernel_rfl)) rfl rfl ?_
      refine Ops_step (R_neqArr8 TWj.a8_30 rfl rfl TWj.gg_30 (by simp) (by simp)) rfl rfl ?_
      refine Ops_step (R_pick_false rfl rfl) rfl rfl ?_
      refine Ops_step (R_move rfl) rfl rfl ?_
      refine Ops_known (b := false) 28 rfl (by simp) ?_
      refine Ops_step (R_move rfl) rfl rfl ?_
      refine Ops_call (C_func TWj.bd17 rfl) rfl rfl ?_
      refine (clone_nob p _ hn).mono ?_
      rintro _ _ ⟨rfl, rfl⟩
      refine ⟨_, rfl, ?_⟩
      refine Ops_step (R_ptrNotNil Tryd.underlying25 rfl rfl) rfl rfl ?_
      refine Ops_step (R_pick_false rfl rfl) rfl rfl ?_
      refine Ops_nil ?_
      refine then_n (hK13_ _ _ ?_)
      clear hK13_ K13_
      refine W_keepB [0, 11, 12, 13, 23, 24, 25, 26, 29, 30, 31, 32] fun B14 hB14_ => ?_
      simp only [pickE, lookE, putE, zipE, args0, Nat.reduceAdd, Nat.zero_add, List.cons_append, List.nil_append, Nat.reduceBEq, cond_true, cond_false] at hB14_
      subst hB14_
      refine W_cond_false rfl ?_
      refine W_skip ?_
      refine block_n ?_
      refine then_n (hK11_ _ _ ?_)
      clear hK11_ K11_
      refine W_region [some 33, some 13] rfl ?_
      refine Ops_step (R_add rfl rfl (wIc (n := i + 1) (by omega) (by omega))) rfl rfl ?_
      refine Ops_step (R_move rfl) rfl rfl ?_
      refine Ops_nil ?_
      exact ⟨2 - (i + 1), _, by omega, rfl, ⟨i + 1, by omega, rfl, rfl, hB11, hB10, hF⟩, ⟨rfl, rfl, rfl, trivial⟩⟩
    · refine W_exit ?_
      refine then_exit ?_
      clear hK10_ K10_
      refine then_exit ?_
      refine block_exit ?_
      refine then_n (hK5_ _ _ ?_)
      clear hK5_ K5_
      refine W_seq_k fun K15_ hK15_ => ?_
      refine W_region [some 34, some 2] rfl ?_
      refine Ops_call (C_func TWj.bd13 rfl) rfl rfl ?_
      refine (awake_any _ (hO.fr0 hF)).mono ?_
      rintro _ w34_ ⟨rfl, hF34_⟩
      replace hF := hF.fr0 hF34_
      replace hB11 := hB11.fr0 hF34_
      replace hB10 := hB10.fr0 hF34_
      clear hF34_
      refine ⟨_, rfl, ?_⟩
      refine Ops_step (R_assign rfl) rfl rfl ?_
      refine Ops_nil ?_
      refine then_n (hK15_ _ _ ?_)
      clear hK15_ K15_
      refine W_keepB [2] fun B16 hB16_ => ?_
      simp only [pickE, lookE, putE, zipE, args0, Nat.reduceAdd, Nat.zero_add, List.cons_append, List.nil_append, Nat.reduceBEq, cond_true, cond_false] at hB16_
      subst hB16_
      refine W_ret ?_
      refine ⟨_, ⟨_, _, rfl, rfl, rfl⟩, ?_⟩
      exact ⟨rfl, hF⟩

end Go.Proofs.YtghfohhekhedaaaDoor
