/- What the walks of this seat show of Wf. -/
import Derived.Test.YtghfohhekhedaaaDoorSx14
import Derived.Test.YtghfohhekhedaaaDoorBs
import Derived.Test.YtghfohhekhedaaaDoorWb
import Derived.Test.YtghfohhekhedaaaDoorWd
import Derived.Test.YtghfohhekhedaaaDoorProg
set_option linter.unusedVariables false
set_option linter.unusedSimpArgs false
namespace Go.Proofs.YtghfohhekhedaaaDoor
open Go Go.Sx

namespace TWf
theorem hm : Tryd.prog.follows .mixedOrders = true := by kernel_rfl
theorem ag22 : aggB Tryd.prog 22 = some false := by kernel_rfl
theorem ag30 : aggB Tryd.prog 30 = some true := by kernel_rfl
theorem ag34 : aggB Tryd.prog 34 = some false := by kernel_rfl
theorem ag36 : aggB Tryd.prog 36 = some true := by kernel_rfl
theorem ag37 : aggB Tryd.prog 37 = some false := by kernel_rfl
theorem ag4 : aggB Tryd.prog 4 = some false := by kernel_rfl
theorem bd31 : bodied Tryd.prog 31 = true := by kernel_rfl
theorem el22 : Elem Tryd.prog 22 5 1 1 := Elem.of (by kernel_rfl)
theorem fo39_0 : offB Tryd.prog 39 0 = some 0 := by kernel_rfl
theorem fo39_1 : offB Tryd.prog 39 1 = some 8 := by kernel_rfl
theorem fo39_2 : offB Tryd.prog 39 2 = some 9 := by kernel_rfl
theorem fo39_3 : offB Tryd.prog 39 3 = some 10 := by kernel_rfl
theorem sz30 : sz Tryd.prog 30 = some 32 := by kernel_rfl
theorem sz34 : sz Tryd.prog 34 = some 1 := by kernel_rfl
theorem sz36 : sz Tryd.prog 36 = some 8 := by kernel_rfl
theorem sz5 : sz Tryd.prog 5 = some 1 := by kernel_rfl
theorem zr30 : zr Tryd.prog 30 = some (List.replicate 32 (.int .u8 0)) := by kernel_rfl
theorem zr36 : zr Tryd.prog 36 = some (List.replicate 8 (.int .u32 0)) := by kernel_rfl
theorem zr5 : zr Tryd.prog 5 = some ([.int .u8 0]) := by kernel_rfl
end TWf
set_option maxHeartbeats 4000000 in
theorem sum_any (B d : Nat) (D : Bl.D) (w : World) (hD : Dig w B d D) (hO : Rd w (some ⟨0, 0, none⟩) ordC) :
    Calls Tryd.prog 16 #[.pointer (some ⟨d, 0, none⟩)] w fun e w2 => e = .returned (.agg ((Bl.sum D).map vb).toArray) ∧ Fr [] w w2 := by
  obtain ⟨A, c, hB, hh, hr, hd, hR, hc⟩ := hD
  have hF := Fr.refl [] w
  have sO := hO.ltO
  refine calls_W 81 Tryd.func16 rfl Tryd.ntmps16 rfl [.cell 2 30] rfl ?_
  refine W_seq_k fun K1_ hK1_ => ?_
  refine W_region [some 2] rfl ?_
  have hz2_hF := hF.size
  refine Ops_to (R_alloc TWf.zr30) rfl rfl ?_
  rintro _ w2_ ⟨b2, rfl, hb2, hB2, hF2_⟩
  have hl2 := hB2.lt
  replace hF := hF.fr0 hF2_
  clear hF2_
  refine Ops_nil ?_
  refine then_n (hK1_ _ _ ?_)
  clear hK1_ K1_
  refine W_seq_k fun K2_ hK2_ => ?_
  refine W_region [some 3] rfl ?_
  have hz3_hF := hF.size
  have hn3_hB2 := hB2.lt
  refine Ops_to (R_alloc TWf.zr30) rfl rfl ?_
  rintro _ w3_ ⟨b3, rfl, hb3, hB3, hF3_⟩
  have hl3 := hB3.lt
  replace hF := hF.fr0 hF3_
  replace hB2 := hB2.fr0 hF3_
  clear hF3_
  refine Ops_nil ?_
  refine then_n (hK2_ _ _ ?_)
  clear hK2_ K2_
  refine W_seq_k fun K3_ hK3_ => ?_
  refine W_seq_k fun K4_ hK4_ => ?_
  refine W_region [some 8, some 9, some 10, some 11, some 12, some 13, some 14, some 15, some 16] rfl ?_
  refine Ops_step (R_move rfl) rfl rfl ?_
  refine Ops_step (R_ptrNil Tryd.underlying25 rfl rfl) rfl rfl ?_
  refine Ops_step (R_move rfl) rfl rfl ?_
  refine Ops_step (R_move rfl) rfl rfl ?_
  refine Ops_step (R_nilCheck rfl) rfl rfl ?_
  refine Ops_step (R_fieldAddr TWf.fo39_3 rfl) rfl rfl ?_
  refine Ops_step (R_loadB TWf.ag4 rfl (hB.fr0 hF) (digC_get10 hh _ _ _ _)) rfl rfl ?_
  refine Ops_step (R_not rfl) rfl rfl ?_
  refine Ops_step (R_pick_false rfl rfl) rfl rfl ?_
  refine Ops_nil ?_
  refine then_n (hK4_ _ _ ?_)
  clear hK4_ K4_
  refine W_keepB [0, 2, 3, 16] fun B5 hB5_ => ?_
  simp only [pickE, lookE, putE, zipE, args0, Nat.reduceAdd, Nat.zero_add, List.cons_append, List.nil_append, Nat.reduceBEq, cond_true, cond_false] at hB5_
  subst hB5_
  refine W_cond_false rfl ?_
  refine W_skip ?_
  refine then_n (hK3_ _ _ ?_)
  clear hK3_ K3_
  refine W_seq_k fun K6_ hK6_ => ?_
  refine W_region [some 18, some 19, some 20, some 21, some 4, none] rfl ?_
  refine Ops_step (R_move rfl) rfl rfl ?_
  refine Ops_step (R_nilCheck rfl) rfl rfl ?_
  refine Ops_step (R_fieldAddr TWf.fo39_0 rfl) rfl rfl ?_
  refine Ops_step (R_loadN TWf.ag36 TWf.sz36 rfl (hB.fr0 hF) (by rw [digC_len hh]; decide)) rfl rfl ?_
  have hz4_hF := hF.size
  have hn4_hB2 := hB2.lt
  have hn4_hB3 := hB3.lt
  refine Ops_to (R_alloc TWf.zr36) rfl rfl ?_
  rintro _ w4_ ⟨b4, rfl, hb4, hB4, hF4_⟩
  have hl4 := hB4.lt
  replace hF := hF.fr0 hF4_
  replace hB2 := hB2.fr0 hF4_
  replace hB3 := hB3.fr0 hF4_
  clear hF4_
  refine Ops_to0 (R_storeN TWf.sz36 (by simp [digC_len hh]) rfl rfl hB4 (by decide) (all_cut (digC_one _ _ _ _ _) _ _)) rfl ?_
  clear hB4
  rintro _ w7_ ⟨hB4, hF7_⟩
  replace hF := hF.then hF7_ (by simp only [List.mem_cons, List.not_mem_nil, or_false]; intro i_ hi_ hj_; omega)
  replace hB2 := hB2.fr hF7_ (by simp only [List.mem_cons, List.not_mem_nil, or_false]; omega)
  replace hB3 := hB3.fr hF7_ (by simp only [List.mem_cons, List.not_mem_nil, or_false]; omega)
  clear hF7_
  replace hB4 := hB4.to (fst_cells hh _ (by simp) _ _ _ _)
  refine Ops_nil ?_
  refine then_n (hK6_ _ _ ?_)
  clear hK6_ K6_
  refine W_seq_k fun K8_ hK8_ => ?_
  refine W_drawF [some 22, some 23, some 24, some 25, some 26, some 27, some 28, some 29, some 30, some 31, some 32, some 33, some 34, some 5] [(1, true), (2, true), (3, true), (4, true), (6, true), (7, true), (8, true), (9, true), (10, true), (11, true), (0, false), (5, false), (12, false), (13, true)] TWf.hm rfl (by kernel_rfl) fun ops9_ w9_ hops9_ hF9_ => ?_
  replace hF := hF.fr0 hF9_
  replace hB2 := hB2.fr0 hF9_
  replace hB3 := hB3.fr0 hF9_
  replace hB4 := hB4.fr0 hF9_
  clear hF9_
  refine HS_pure (fun w_ => R_move rfl) rfl rfl ?_
  refine HS_pure (fun w_ => R_nilCheck rfl) rfl rfl ?_
  refine HS_pure (fun w_ => R_fieldAddr TWf.fo39_1 rfl) rfl rfl ?_
  refine HS_loadB TWf.ag22 rfl (hB.fr0 hF) (digC_get8 hh _ _ _ _) rfl rfl ?_
  refine HS_pure (fun w_ => R_move rfl) rfl rfl ?_
  refine HS_pure (fun w_ => R_nilCheck rfl) rfl rfl ?_
  refine HS_pure (fun w_ => R_fieldAddr TWf.fo39_1 rfl) rfl rfl ?_
  refine HS_loadB TWf.ag22 rfl (hB.fr0 hF) (digC_get8 hh _ _ _ _) rfl rfl ?_
  refine HS_pure (fun w_ => R_len Tryd.underlying22 rfl rfl) rfl rfl ?_
  refine HS_pure (fun w_ => R_sub rfl rfl (wIc (n := 64 - D.rest.length) (by omega) (by omega))) rfl rfl ?_
  have hz22 := hF.size
  have hz22_hF := hF.size
  have hn22_hB2 := hB2.lt
  have hn22_hB3 := hB3.lt
  have hn22_hB4 := hB4.lt
  refine HS_to [9, 4] _ rfl (by rw [hops9_]; kernel_rfl) (R_buildSlice0 TWf.el22) rfl rfl ?_
  rintro _ w22_ ⟨b22, rfl, hb22, hB22, hF22_⟩
  replace hF := hF.fr0 hF22_
  replace hB2 := hB2.fr0 hF22_
  replace hB3 := hB3.fr0 hF22_
  replace hB4 := hB4.fr0 hF22_
  clear hF22_
  have hQ := Own.empty (B := w.heap.size) (size := 1) (by omega) hB22
  clear hB22
  refine ⟨⟨((hB.fr0 hF).at_ (digC_get8 hh _ _ _ _)), ((hB.fr0 hF).at_ (digC_get8 hh _ _ _ _)), trivial⟩, ?_⟩
  have hlt_ := hQ.off
  have hno4_ := hQ.notin hB4 (by decide)
  have hno3_ := hQ.notin hB3 (by decide)
  have hno2_ := hQ.notin hB2 (by decide)
  refine HS_to [9] _ rfl (by rw [hops9_]; kernel_rfl) (R_append TWf.el22 rfl rfl hQ (Src.ofRd Tryd.underlying22 (by decide) (hR.fr0 hF).rd (by simp) allb) (by omega) (by simp only [maxLen]; omega) hF.size) rfl rfl ?_
  clear hQ
  rintro _ w27_ ⟨A27, c27, rfl, hQ, hF27_⟩
  replace hF := hF.then hF27_ (fun i_ hi_ hj_ => absurd (hlt_ i_ hi_) (by omega))
  replace hB2 := hB2.fr hF27_ hno2_
  replace hB3 := hB3.fr hF27_ hno3_
  replace hB4 := hB4.fr hF27_ (hno4_)
  clear hF27_
  refine ⟨⟨((hB.fr0 hF).at_ (digC_get8 hh _ _ _ _)), trivial⟩, ?_⟩
  clear hlt_ hno4_ hno3_ hno2_
  have hlt_ := hQ.off
  have hno4_ := hQ.notin hB4 (by decide)
  have hno3_ := hQ.notin hB3 (by decide)
  have hno2_ := hQ.notin hB2 (by decide)
  refine HS_to [] _ rfl (by rw [hops9_]; kernel_rfl) (R_appendZeros TWf.el22 TWf.zr5 (by decide) Tryd.underlying3 rfl rfl hQ (by omega) (by simp only [maxLen]; omega) hF.size) rfl rfl ?_
  clear hQ
  rintro _ w34_ ⟨A34, c34, rfl, hQ, hF34_⟩
  replace hF := hF.then hF34_ (fun i_ hi_ hj_ => absurd (hlt_ i_ hi_) (by omega))
  replace hB2 := hB2.fr hF34_ hno2_
  replace hB3 := hB3.fr hF34_ hno3_
  replace hB4 := hB4.fr hF34_ (hno4_)
  clear hF34_
  rw [List.nil_append, pad_eq] at hQ
  have e64 : 0 + D.rest.length + (64 - D.rest.length) = 64 := by omega
  rw [e64] at hQ ⊢
  obtain ⟨g34, rfl, hg34⟩ := own_some hQ (by decide)
  have hno := hQ.notin hB4 (by decide)
  refine ⟨trivial, ?_⟩
  clear hlt_ hno4_ hno3_ hno2_
  refine HS_pure (fun w_ => R_assign rfl) rfl rfl ?_
  refine HS_nil ?_
  clear hops9_
  refine then_n (hK8_ _ _ ?_)
  clear hK8_ K8_
  refine W_keepB [0, 2, 3, 4, 5] fun B10 hB10_ => ?_
  simp only [pickE, lookE, putE, zipE, args0, Nat.reduceAdd, Nat.zero_add, List.cons_append, List.nil_append, Nat.reduceBEq, cond_true, cond_false] at hB10_
  subst hB10_
  refine W_seq_k fun K11_ hK11_ => ?_
  refine W_drawF [some 35, some 36, some 37, some 38, some 39, some 40, some 41, some 42, some 43, some 44, some 45, some 46, some 47] [(0, true), (1, true), (2, true), (3, true), (4, true), (5, true), (6, true), (7, true), (8, true), (9, true), (10, true), (11, true), (12, false)] TWf.hm rfl (by kernel_rfl) fun ops12_ w12_ hops12_ hF12_ => ?_
  replace hF := hF.fr0 hF12_
  replace hB2 := hB2.fr0 hF12_
  replace hB3 := hB3.fr0 hF12_
  replace hB4 := hB4.fr0 hF12_
  replace hQ := hQ.fr0 hF12_
  clear hF12_
  refine HS_pure (fun w_ => R_move rfl) rfl rfl ?_
  refine HS_pure (fun w_ => R_move rfl) rfl rfl ?_
  refine HS_pure (fun w_ => R_nilCheck rfl) rfl rfl ?_
  refine HS_pure (fun w_ => R_fieldAddr TWf.fo39_2 rfl) rfl rfl ?_
  refine HS_loadB TWf.ag37 rfl (hB.fr0 hF) (digC_get9 hh _ _ _ _) rfl rfl ?_
  refine HS_pure (fun w_ => R_move rfl) rfl rfl ?_
  refine HS_pure (fun w_ => R_nilCheck rfl) rfl rfl ?_
  refine HS_pure (fun w_ => R_fieldAddr TWf.fo39_1 rfl) rfl rfl ?_
  refine HS_loadB TWf.ag22 rfl (hB.fr0 hF) (digC_get8 hh _ _ _ _) rfl rfl ?_
  refine HS_pure (fun w_ => R_len Tryd.underlying22 rfl rfl) rfl rfl ?_
  refine HS_pure (fun w_ => R_conv Tryd.underlying3 Tryd.underlying37 rfl (cN_64 _)) rfl rfl ?_
  refine HS_pure (fun w_ => R_add rfl rfl (add64N _ _)) rfl rfl ?_
  have hB4_ := hB4
  refine HS_call [] _ rfl (by rw [hops12_]; kernel_rfl) (C_func TWf.bd31 rfl) rfl rfl ?_
  refine (mix_any D.h hh [] b4 36 ⟨g34, 0, none⟩ (Bl.padded D.rest) (padded_len hr) _ (BitVec.ofNat 64 (D.n + D.rest.length)) true _ hB4 hQ.rd (hO.fr0 hF) (offlt (by intro h_; exact hno (by simp only [blkOf, List.mem_singleton]; exact h_.symm))) (offlt (by show 0 ≠ b4; omega))).mono ?_
  rintro _ w47_ ⟨rfl, hB4, hF47_⟩
  replace hF := hF.then hF47_ (by simp only [List.mem_cons, List.not_mem_nil, or_false]; intro i_ hi_ hj_; omega)
  replace hB2 := hB2.fr hF47_ (by simp only [List.mem_singleton]; exact hB2.ne hB4_ (by decide))
  replace hB3 := hB3.fr hF47_ (by simp only [List.mem_singleton]; exact hB3.ne hB4_ (by decide))
  clear hF47_
  refine ⟨_, rfl, trivial, ?_⟩
  clear hQ hB4_
  rw [mix_wrap] at hB4
  refine named (Bl.mix D.h (Bl.padded D.rest) (D.n + D.rest.length) true) fun HH eH => ?_
  have lH : HH.length = 8 := by rw [eH]; exact mix_len _ _ _ _
  replace hB4 := hB4.to (cs' := HH.map w32) (by rw [eH]; simp)
  refine HS_nil ?_
  clear hops12_
  refine then_n (hK11_ _ _ ?_)
  clear hK11_ K11_
  refine W_keepB [2, 3, 4] fun B13 hB13_ => ?_
  simp only [pickE, lookE, putE, zipE, args0, Nat.reduceAdd, Nat.zero_add, List.cons_append, List.nil_append, Nat.reduceBEq, cond_true, cond_false] at hB13_
  subst hB13_
  refine W_seq_k fun K14_ hK14_ => ?_
  refine W_seq_k fun K15_ hK15_ => ?_
  refine W_region [some 48, some 49] rfl ?_
  refine Ops_step (R_loadN TWf.ag36 TWf.sz36 rfl hB4 (by rw [List.length_map, lH]; decide)) rfl rfl ?_
  refine Ops_step (R_move rfl) rfl rfl ?_
  refine Ops_nil ?_
  refine then_n (hK15_ _ _ ?_)
  clear hK15_ K15_
  refine W_block ?_
  refine W_loopB [2, 3, 48] [49] (fun m vs w' => ∃ i, i ≤ 8 ∧ m = 8 - i ∧ vs = [vi i] ∧ Blk w' b3 30 ((outL HH i).map vb) ∧ (∃ zs, zs.length = 32 ∧ Blk w' b2 30 zs) ∧ Fr [] w w') (8) _ rfl (⟨0, by decide, rfl, rfl, hB3.to (by rw [rep_vb]; simp [outL, lH]), ⟨List.replicate 32 (.int .u8 0), by simp, hB2⟩, hF⟩) fun B16 hB16_ => ?_
  simp only [pickE, lookE, putE, zipE, args0, Nat.reduceAdd, Nat.zero_add, List.cons_append, List.nil_append, Nat.reduceBEq, cond_true, cond_false] at hB16_
  subst hB16_
  clear hB3 hB2 hB4 hF
  rintro m_ vs_ w0_ ⟨i, hi, rfl, rfl, hB3, ⟨zs2, lz2, hB2⟩, hF⟩
  refine W_seq_k fun K17_ hK17_ => ?_
  refine W_region [some 50] rfl ?_
  refine Ops_step (R_lss rfl rfl) rfl rfl ?_
  refine Ops_nil ?_
  refine then_n (hK17_ _ _ ?_)
  clear hK17_ K17_
  refine W_seq_k fun K18_ hK18_ => ?_
  refine W_if rfl (fun hc50 => ?_) (fun hc50 => ?_)
  · refine named (outL HH i) fun L0 eL0 => ?_
    rw [← eL0] at hB3
    have lL0 : L0.length = 32 := by rw [eL0, outL_len _ (by omega), lH]
    refine W_skip ?_
    refine then_n (hK18_ _ _ ?_)
    clear hK18_ K18_
    refine W_seq_k fun K19_ hK19_ => ?_
    refine W_block ?_
    refine W_seq_k fun K20_ hK20_ => ?_
    refine W_region [some 51, some 52, some 6, some 7] rfl ?_
    refine Ops_step (R_move rfl) rfl rfl ?_
    refine Ops_step (R_index Tryd.underlying36 TWf.sz34 TWf.ag34 rfl rfl (by omega) (by omega) (getAgg lH (by omega))) rfl rfl ?_
    refine Ops_step (R_assign rfl) rfl rfl ?_
    refine Ops_step (R_assign rfl) rfl rfl ?_
    refine Ops_nil ?_
    refine then_n (hK20_ _ _ ?_)
    clear hK20_ K20_
    refine W_region [some 53, some 54, some 55, some 56, some 57, some 58, some 59, some 60, some 61, some 62, some 63, some 64, some 65, some 66, some 67, some 68, some 69, some 70, some 71, some 72, some 73, some 74, some 75, none, some 76, none, some 77, none, some 78, none] rfl ?_
    refine Ops_step (R_move rfl) rfl rfl ?_
    refine Ops_step (R_mul rfl rfl (wIc (n := 4 * i) (by omega) (by omega))) rfl rfl ?_
    refine Ops_step (R_move rfl) rfl rfl ?_
    refine Ops_step (R_mul rfl rfl (wIc (n := 4 * i) (by omega) (by omega))) rfl rfl ?_
    refine Ops_step (R_add rfl rfl (wIc (n := (4 * i) + 1) (by omega) (by omega))) rfl rfl ?_
    refine Ops_step (R_move rfl) rfl rfl ?_
    refine Ops_step (R_mul rfl rfl (wIc (n := 4 * i) (by omega) (by omega))) rfl rfl ?_
    refine Ops_step (R_add rfl rfl (wIc (n := (4 * i) + 2) (by omega) (by omega))) rfl rfl ?_
    refine Ops_step (R_move rfl) rfl rfl ?_
    refine Ops_step (R_mul rfl rfl (wIc (n := 4 * i) (by omega) (by omega))) rfl rfl ?_
    refine Ops_step (R_add rfl rfl (wIc (n := (4 * i) + 3) (by omega) (by omega))) rfl rfl ?_
    refine Ops_step (R_move rfl) rfl rfl ?_
    refine Ops_step (R_conv Tryd.underlying34 Tryd.underlying5 rfl (c32_8 _)) rfl rfl ?_
    refine Ops_step (R_move rfl) rfl rfl ?_
    refine Ops_step (R_shr rfl rfl (by decide) (shr32 _ 8 (by decide))) rfl rfl ?_
    refine Ops_step (R_conv Tryd.underlying34 Tryd.underlying5 rfl (c32_8 _)) rfl rfl ?_
    refine Ops_step (R_move rfl) rfl rfl ?_
    refine Ops_step (R_shr rfl rfl (by decide) (shr32 _ 16 (by decide))) rfl rfl ?_
    refine Ops_step (R_conv Tryd.underlying34 Tryd.underlying5 rfl (c32_8 _)) rfl rfl ?_
    refine Ops_step (R_move rfl) rfl rfl ?_
    refine Ops_step (R_shr rfl rfl (by decide) (shr32 _ 24 (by decide))) rfl rfl ?_
    refine Ops_step (R_conv Tryd.underlying34 Tryd.underlying5 rfl (c32_8 _)) rfl rfl ?_
    refine Ops_step (R_indexArr Tryd.underlying30 TWf.sz5 rfl rfl (by omega) (by omega)) rfl rfl ?_
    refine Ops_to0 (R_store TWf.sz5 rfl rfl hB3 (by rw [List.length_map, lL0]; omega) rfl) rfl ?_
    clear hB3
    rintro _ w21_ ⟨hB3, hF21_⟩
    replace hB2 := hB2.fr hF21_ (by simp only [List.mem_cons, List.not_mem_nil, or_false]; omega)
    replace hF := hF.then hF21_ (by simp only [List.mem_cons, List.not_mem_nil, or_false]; intro i_ hi_ hj_; omega)
    clear hF21_
    refine named (L0.set (4 * i) (UInt8.ofBitVec ((HH.getD i 0).setWidth 8))) fun L1 eL1 => ?_
    replace hB3 := hB3.to (cs' := L1.map vb) (by rw [eL1]; exact setb _ (4 * i) _)
    have lL1 : L1.length = 32 := by rw [eL1, List.length_set, lL0]
    refine Ops_step (R_indexArr Tryd.underlying30 TWf.sz5 rfl rfl (by omega) (by omega)) rfl rfl ?_
    refine Ops_to0 (R_store TWf.sz5 rfl rfl hB3 (by rw [List.length_map, lL1]; omega) rfl) rfl ?_
    clear hB3
    rintro _ w22_ ⟨hB3, hF22_⟩
    replace hB2 := hB2.fr hF22_ (by simp only [List.mem_cons, List.not_mem_nil, or_false]; omega)
    replace hF := hF.then hF22_ (by simp only [List.mem_cons, List.not_mem_nil, or_false]; intro i_ hi_ hj_; omega)
    clear hF22_
    refine named (L1.set (4 * i + 1) (UInt8.ofBitVec ((HH.getD i 0 >>> 8).setWidth 8))) fun L2 eL2 => ?_
    replace hB3 := hB3.to (cs' := L2.map vb) (by rw [eL2]; exact setb _ (4 * i + 1) _)
    have lL2 : L2.length = 32 := by rw [eL2, List.length_set, lL1]
    refine Ops_step (R_indexArr Tryd.underlying30 TWf.sz5 rfl rfl (by omega) (by omega)) rfl rfl ?_
    refine Ops_to0 (R_store TWf.sz5 rfl rfl hB3 (by rw [List.length_map, lL2]; omega) rfl) rfl ?_
    clear hB3
    rintro _ w23_ ⟨hB3, hF23_⟩
    replace hB2 := hB2.fr hF23_ (by simp only [List.mem_cons, List.not_mem_nil, or_false]; omega)
    replace hF := hF.then hF23_ (by simp only [List.mem_cons, List.not_mem_nil, or_false]; intro i_ hi_ hj_; omega)
    clear hF23_
    refine named (L2.set (4 * i + 2) (UInt8.ofBitVec ((HH.getD i 0 >>> 16).setWidth 8))) fun L3 eL3 => ?_
    replace hB3 := hB3.to (cs' := L3.map vb) (by rw [eL3]; exact setb _ (4 * i + 2) _)
    have lL3 : L3.length = 32 := by rw [eL3, List.length_set, lL2]
    refine Ops_step (R_indexArr Tryd.underlying30 TWf.sz5 rfl rfl (by omega) (by omega)) rfl rfl ?_
    refine Ops_to0 (R_store TWf.sz5 rfl rfl hB3 (by rw [List.length_map, lL3]; omega) rfl) rfl ?_
    clear hB3
    rintro _ w24_ ⟨hB3, hF24_⟩
    replace hB2 := hB2.fr hF24_ (by simp only [List.mem_cons, List.not_mem_nil, or_false]; omega)
    replace hF := hF.then hF24_ (by simp only [List.mem_cons, List.not_mem_nil, or_false]; intro i_ hi_ hj_; omega)
    clear hF24_
    refine named (L3.set (4 * i + 3) (UInt8.ofBitVec ((HH.getD i 0 >>> 24).setWidth 8))) fun L4 eL4 => ?_
    replace hB3 := hB3.to (cs' := L4.map vb) (by rw [eL4]; exact setb _ (4 * i + 3) _)
    have lL4 : L4.length = 32 := by rw [eL4, List.length_set, lL3]
    refine Ops_nil ?_
    refine block_n ?_
    refine then_n (hK19_ _ _ ?_)
    clear hK19_ K19_
    refine W_keepB [2, 3, 48, 49] fun B25 hB25_ => ?_
    simp only [pickE, lookE, putE, zipE, args0, Nat.reduceAdd, Nat.zero_add, List.cons_append, List.nil_append, Nat.reduceBEq, cond_true, cond_false] at hB25_
    subst hB25_
    refine W_region [some 79, some 49] rfl ?_
    refine Ops_step (R_add rfl rfl (wIc (n := i + 1) (by omega) (by omega))) rfl rfl ?_
    refine Ops_step (R_move rfl) rfl rfl ?_
    refine Ops_nil ?_
    exact ⟨8 - (i + 1), _, by omega, rfl, ⟨i + 1, by omega, rfl, rfl, hB3.to (by rw [eL4, eL3, eL2, eL1, eL0, outL_set _ (by omega)]), ⟨zs2, lz2, hB2⟩, hF⟩, ⟨rfl, rfl, rfl, trivial⟩⟩
  · have hi8 : i = 8 := by omega
    subst hi8
    replace hB3 := hB3.to (cs' := (Bl.sum D).map vb) (by rw [Bl.sum, ← eH, ← outL_all, lH])
    refine W_exit ?_
    refine then_exit ?_
    clear hK18_ K18_
    refine then_exit ?_
    refine block_exit ?_
    refine then_n (hK14_ _ _ ?_)
    clear hK14_ K14_
    refine W_seq_k fun K26_ hK26_ => ?_
    refine W_region [some 80, none] rfl ?_
    refine Ops_step (R_loadN TWf.ag30 TWf.sz30 rfl hB3 (by rw [List.length_map, sum_len]; decide)) rfl rfl ?_
    refine Ops_to0 (R_storeN TWf.sz30 (by simp [sum_len]) rfl rfl hB2 (by rw [lz2]; decide) (all_cut allb _ _)) rfl ?_
    clear hB2
    rintro _ w27_ ⟨hB2, hF27_⟩
    replace hB3 := hB3.fr hF27_ (by simp only [List.mem_cons, List.not_mem_nil, or_false]; omega)
    replace hF := hF.then hF27_ (by simp only [List.mem_cons, List.not_mem_nil, or_false]; intro i_ hi_ hj_; omega)
    clear hF27_
    replace hB2 := hB2.to (cs' := (Bl.sum D).map vb) (over_whole lz2 (by rw [List.length_map, sum_len]))
    refine Ops_nil ?_
    refine then_n (hK26_ _ _ ?_)
    clear hK26_ K26_
    refine W_ret ?_
    refine ⟨_, ⟨_, _, _, rfl, rfl, run_loadVarN TWf.ag30 TWf.sz30 hB2 (by simp [sum_len]), rfl⟩, ?_⟩
    exact ⟨by simp [sum_len, List.take_of_length_le, tupled], hF⟩

end Go.Proofs.YtghfohhekhedaaaDoor
