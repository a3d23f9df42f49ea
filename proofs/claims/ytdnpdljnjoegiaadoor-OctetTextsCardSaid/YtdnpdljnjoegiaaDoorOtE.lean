/- What the walks of this seat show of OtE. -/
import Derived.Test.YtdnpdljnjoegiaaDoorOtEp
import Derived.Test.YtdnpdljnjoegiaaDoorOtC
import Derived.Test.YtdnpdljnjoegiaaDoorProg
set_option linter.unusedVariables false
set_option linter.unusedSimpArgs false
namespace Go.Proofs.YtdnpdljnjoegiaaDoor
open Go Go.Sx Go.Lx
namespace TOtE
theorem hm : Tryd.prog.follows .mixedOrders = true := by kernel_rfl
theorem ag22 : aggB Tryd.prog 22 = some false := by kernel_rfl
theorem bd16 : bodied Tryd.prog 16 = true := by kernel_rfl
theorem bd17 : bodied Tryd.prog 17 = true := by kernel_rfl
theorem bd19 : bodied Tryd.prog 19 = true := by kernel_rfl
theorem bd20 : bodied Tryd.prog 20 = true := by kernel_rfl
theorem bd22 : bodied Tryd.prog 22 = true := by kernel_rfl
theorem bd24 : bodied Tryd.prog 24 = true := by kernel_rfl
theorem bd27 : bodied Tryd.prog 27 = true := by kernel_rfl
theorem bd28 : bodied Tryd.prog 28 = true := by kernel_rfl
theorem bd35 : bodied Tryd.prog 35 = true := by kernel_rfl
theorem bd38 : bodied Tryd.prog 38 = true := by kernel_rfl
theorem el22 : Elem Tryd.prog 22 5 1 1 := Elem.of (by kernel_rfl)
theorem el48 : Elem Tryd.prog 48 3 1 8 := Elem.of (by kernel_rfl)
theorem sz22 : sz Tryd.prog 22 = some 1 := by kernel_rfl
theorem zr3 : zr Tryd.prog 3 = some ([.int .i64 0]) := by kernel_rfl
theorem zr5 : zr Tryd.prog 5 = some ([.int .u8 0]) := by kernel_rfl
end TOtE
set_option maxHeartbeats 4000000 in
theorem sealskinlaw02_awake_ok {G : Gh} {w : World} (hS : St G w) (hg : GL G)  {Q : Bool → Prop} (h : sealskinlaw02_awake  Q) : Calls Tryd.prog 15 #[] w fun e w2 => ∃ (r0 : Bool) (L H : Gh), e = .returned (.bool r0) ∧ Inv [] G w L H w2 ∧ Q r0 := by
  unfold sealskinlaw02_awake at h
  have hI := Inv.start (M := []) hS
  refine calls_W 68 Tryd.func15 rfl Tryd.ntmps15 rfl [.tmp 0] rfl ?_
  refine W_seq_k fun K1_ hK1_ => ?_
  refine W_region [some 0] rfl ?_
  refine Ops_step (R_assign rfl) rfl rfl ?_
  refine Ops_nil ?_
  refine then_n (hK1_ _ _ ?_)
  clear hK1_ K1_
  refine W_seq_k fun K2_ hK2_ => ?_
  refine W_region [some 8, some 9, some 10, some 7, some 11, some 12, some 1, some 2] rfl ?_
  refine Ops_to (R_buildSlice TOtE.el22 TOtE.zr5 (by decide) (by decide) rfl rfl) rfl rfl ?_
  rintro _ w3_ ⟨b3_, rfl, hb3_, hB3_, hF3_⟩
  have ho3_ : OwnS w.heap.size 5 Gh.no G _ (some ⟨b3_, 0, none⟩) 1 ([(97 : UInt8)] : List UInt8) := OwnS.ofBlk hI.st hb3_ hB3_ (all2_sc' _) rfl (by have := hI.size; omega) (by show 1 ≤ maxLen; decide)
  replace hI := hI.fr0 hF3_
  clear hF3_ hB3_
  refine Ops_to (X_convB (xs := ([(97 : UInt8)] : List UInt8)) Tryd.underlying22 Tryd.underlying5 rfl rfl (by show 0 < 1; decide) ho3_) rfl rfl ?_
  rintro _ w4_ ⟨rfl, hR4_, hF4_⟩
  refine Exists.elim (Inv.ownRd ho3_ hI hF4_ hR4_) fun L4_ h4_ => Exists.elim h4_ fun H4_ h4_ => ?_
  replace hI := h4_.1
  have u4_ := h4_.2.1
  have hs4_ := h4_.2.2
  have hc4_ := ho3_.cap
  clear h4_ u4_ hR4_ hF4_ ho3_
  refine Ops_call (C_func TOtE.bd27 rfl) rfl rfl ?_
  refine (octet_Seal_ok (x0 := ([(97 : UInt8)] : List UInt8)) hI.st (hg.up hI.le) hc4_ (hs4_.up hI.sub) h).mono ?_
  rintro _ w5_ ⟨A5_0, c5_0, r5_0, r5_1, L5_, H5_, rfl, hI5_, ho5_0, h⟩
  refine Exists.elim (hI.call hI5_ (by simp)) fun L50_ h5_ => ?_
  have hz5_ := hI.size
  replace hI := h5_.1
  have u5_ := h5_.2.1
  have hl5_ := h5_.2.2
  clear h5_
  replace ho5_0 := OwnS.backS ho5_0 hz5_ (Le.refl _)
  clear hI5_ u5_ hl5_
  refine ⟨_, rfl, ?_⟩
  refine Exists.elim (ho5_0.freeze hI) fun L6_ h6_ => Exists.elim h6_ fun H6_ h6_ => ?_
  replace hI := h6_.1
  have u6_ := h6_.2.1
  have hs6_ := h6_.2.2.1 (Le.no _)
  have hc6_ := ho5_0.cap
  clear h6_ u6_ ho5_0
  refine Ops_step (R_move rfl) rfl rfl ?_
  refine Ops_step (R_extract (v := .slice A5_0 r5_0.length c5_0) rfl rfl) rfl rfl ?_
  refine Ops_step (R_extract (v := vi r5_1) rfl rfl) rfl rfl ?_
  refine Ops_step (R_assign rfl) rfl rfl ?_
  refine Ops_step (R_assign rfl) rfl rfl ?_
  refine Ops_nil ?_
  refine then_n (hK2_ _ _ ?_)
  clear hK2_ K2_
  refine W_keepB [1, 2] fun B7 hB7_ => ?_
  simp only [pickE, lookE, putE, zipE, args0, Nat.reduceAdd, Nat.zero_add, List.cons_append, List.nil_append, Nat.reduceBEq, cond_true, cond_false] at hB7_
  subst hB7_
  refine W_seq_k fun K8_ hK8_ => ?_
  refine W_region [some 14, some 15, some 13, some 16, some 17, some 18, some 3, some 4, some 5] rfl ?_
  refine Ops_step (R_move rfl) rfl rfl ?_
  refine Ops_call (C_func TOtE.bd28 rfl) rfl rfl ?_
  refine (octet_Open_ok (x0 := r5_0) hI.st (hg.up hI.le) hc6_ (hs6_.up hI.sub) h).mono ?_
  rintro _ w9_ ⟨A9_0, c9_0, r9_0, r9_1, r9_2, L9_, H9_, rfl, hI9_, ho9_0, h⟩
  refine Exists.elim (hI.call hI9_ (by simp)) fun L90_ h9_ => ?_
  have hz9_ := hI.size
  replace hI := h9_.1
  have u9_ := h9_.2.1
  have hl9_ := h9_.2.2
  clear h9_
  replace hs6_ := hs6_.up u9_.ll
  replace ho9_0 := OwnS.backS ho9_0 hz9_ (Le.refl _)
  clear hI9_ u9_ hl9_
  refine ⟨_, rfl, ?_⟩
  refine Exists.elim (ho9_0.freeze hI) fun L10_ h10_ => Exists.elim h10_ fun H10_ h10_ => ?_
  replace hI := h10_.1
  have u10_ := h10_.2.1
  have hs10_ := h10_.2.2.1 (Le.no _)
  have hc10_ := ho9_0.cap
  replace hs6_ := hs6_.up u10_.ll
  clear h10_ u10_ ho9_0
  refine Ops_step (R_move rfl) rfl rfl ?_
  refine Ops_step (R_extract (v := .slice A9_0 r9_0.length c9_0) rfl rfl) rfl rfl ?_
  refine Ops_step (R_extract (v := vi r9_1) rfl rfl) rfl rfl ?_
  refine Ops_step (R_extract (v := vi r9_2) rfl rfl) rfl rfl ?_
  refine Ops_step (R_assign rfl) rfl rfl ?_
  refine Ops_step (R_assign rfl) rfl rfl ?_
  refine Ops_step (R_assign rfl) rfl rfl ?_
  refine Ops_nil ?_
  refine then_n (hK8_ _ _ ?_)
  clear hK8_ K8_
  refine W_keepB [1, 2, 3, 4, 5] fun B11 hB11_ => ?_
  simp only [pickE, lookE, putE, zipE, args0, Nat.reduceAdd, Nat.zero_add, List.cons_append, List.nil_append, Nat.reduceBEq, cond_true, cond_false] at hB11_
  subst hB11_
  refine W_seq_k fun K12_ hK12_ => ?_
  refine W_region [some 19, some 20, some 21, some 22, some 6] rfl ?_
  refine Ops_to (R_buildSlice TOtE.el48 TOtE.zr3 (by decide) (by decide) rfl rfl) rfl rfl ?_
  rintro _ w13_ ⟨b13_, rfl, hb13_, hB13_, hF13_⟩
  have ho13_ : OwnS w.heap.size 3 Gh.no H10_ _ (some ⟨b13_, 0, none⟩) 1 ([300] : List Int) := OwnS.ofBlk hI.st hb13_ hB13_ (all2_sc' _) rfl (by have := hI.size; omega) (by show 1 ≤ maxLen; decide)
  replace hI := hI.fr0 hF13_
  clear hF13_ hB13_
  refine Exists.elim (ho13_.lend hI.st (Le.no _)) fun Hb14_0_ hb14_0_ => ?_
  refine Ops_call (C_func TOtE.bd19 rfl) rfl rfl ?_
  refine (octet_Put_ok (x0 := []) (x1 := ([300] : List Int)) hb14_0_.1 (hg.up (hI.le.trans hb14_0_.2.1)) (Nat.le_refl 0) Sl.nil (Nat.le_refl _) hb14_0_.2.2 h).mono ?_
  rintro _ w14_ ⟨A14_0, c14_0, r14_0, L14_, H14_, rfl, hI14_, ho14_0, h⟩
  refine Exists.elim (hI.callB hb14_0_.2.1 hI14_ (by simp)) fun L140_ h14_ => Exists.elim h14_ fun H140_ h14_ => ?_
  have hz14_ := hI.size
  replace hI := h14_.1
  have u14_ := h14_.2.1
  have hl14_ := h14_.2.2.1
  have hh14_ := h14_.2.2.2
  clear h14_
  replace hs6_ := hs6_.up u14_.ll
  replace hs10_ := hs10_.up u14_.ll
  replace ho14_0 := OwnS.backS ho14_0 hz14_ hh14_
  clear hI14_ u14_ hl14_
  refine ⟨_, rfl, ?_⟩
  refine Exists.elim (ho14_0.freeze hI) fun L15_ h15_ => Exists.elim h15_ fun H15_ h15_ => ?_
  replace hI := h15_.1
  have u15_ := h15_.2.1
  have hs15_ := h15_.2.2.1 (Le.no _)
  have hc15_ := ho14_0.cap
  replace hs6_ := hs6_.up u15_.ll
  replace hs10_ := hs10_.up u15_.ll
  clear h15_ u15_ ho14_0
  refine Ops_call (C_func TOtE.bd17 rfl) rfl rfl ?_
  refine (octet_PutText_ok (x0 := r14_0) (x1 := (Str.mk [195, 169])) hI.st (hg.up hI.le) hc15_ (hs15_.up hI.sub) h).mono ?_
  rintro _ w16_ ⟨A16_0, c16_0, r16_0, L16_, H16_, rfl, hI16_, ho16_0, h⟩
  refine Exists.elim (hI.call hI16_ (by simp)) fun L160_ h16_ => ?_
  have hz16_ := hI.size
  replace hI := h16_.1
  have u16_ := h16_.2.1
  have hl16_ := h16_.2.2
  clear h16_
  replace hs6_ := hs6_.up u16_.ll
  replace hs10_ := hs10_.up u16_.ll
  replace ho16_0 := OwnS.backS ho16_0 hz16_ (Le.refl _)
  clear hI16_ u16_ hl16_
  refine ⟨_, rfl, ?_⟩
  refine Exists.elim (ho16_0.freeze hI) fun L17_ h17_ => Exists.elim h17_ fun H17_ h17_ => ?_
  replace hI := h17_.1
  have u17_ := h17_.2.1
  have hs17_ := h17_.2.2.1 (Le.no _)
  have hc17_ := ho16_0.cap
  replace hs6_ := hs6_.up u17_.ll
  replace hs10_ := hs10_.up u17_.ll
  clear h17_ u17_ ho16_0
  refine Ops_call (C_func TOtE.bd16 rfl) rfl rfl ?_
  refine (octet_Read_ok (x0 := r16_0) hI.st (hg.up hI.le) hc17_ (hs17_.up hI.sub) h).mono ?_
  rintro _ w18_ ⟨d18_0, r18_0, L18_, H18_, rfl, hI18_, hge_d18_0, hr18_0, h⟩
  have hge0_18 := hge_d18_0
  replace hge_d18_0 := Nat.le_trans hI.size hge_d18_0
  refine Exists.elim (hI.call hI18_ (by simp)) fun L180_ h18_ => ?_
  have hz18_ := hI.size
  replace hI := h18_.1
  have u18_ := h18_.2.1
  have hl18_ := h18_.2.2
  clear h18_
  replace hs6_ := hs6_.up u18_.ll
  replace hs10_ := hs10_.up u18_.ll
  replace hr18_0 := hr18_0.back hl18_ (Le.refl _)
  obtain ⟨l18_0_, hl18_0_, ht18_0⟩ := hr18_0
  obtain ⟨A18_0_1, c18_0_1, rfl, ⟨hc18_0_1, hs18_0_1⟩⟩ := hl18_0_
  clear hI18_ u18_ hl18_
  refine ⟨_, rfl, ?_⟩
  refine Ops_step (R_assign rfl) rfl rfl ?_
  refine Ops_nil ?_
  refine then_n (hK12_ _ _ ?_)
  clear hK12_ K12_
  refine W_seq_k fun K19_ hK19_ => ?_
  refine W_region [some 23, some 24, some 25, some 26, some 27, some 28, some 29, some 30, some 31, some 32, some 33, some 34, some 35, some 36, some 37, some 38, some 39, some 40, some 41, some 42, some 43, some 44, some 45, some 46, some 47, some 48, some 49, some 50, some 51, some 52, some 53, some 54, some 55, some 56, some 57, some 58, some 59, some 60, some 61, some 62, some 63, some 64, some 65, some 66, some 67, some 0] rfl ?_
  refine Ops_to (R_buildSlice TOtE.el48 TOtE.zr3 (by decide) (by decide) rfl rfl) rfl rfl ?_
  rintro _ w20_ ⟨b20_, rfl, hb20_, hB20_, hF20_⟩
  have ho20_ : OwnS w.heap.size 3 Gh.no H18_ _ (some ⟨b20_, 0, none⟩) 1 ([300] : List Int) := OwnS.ofBlk hI.st hb20_ hB20_ (all2_sc' _) rfl (by have := hI.size; omega) (by show 1 ≤ maxLen; decide)
  replace hI := hI.fr0 hF20_
  replace ht18_0 := ht18_0.fr0 hF20_
  clear hF20_ hB20_
  refine Exists.elim (ho20_.lend hI.st (Le.no _)) fun Hb21_0_ hb21_0_ => ?_
  refine Ops_call (C_func TOtE.bd19 rfl) rfl rfl ?_
  refine (octet_Put_ok (x0 := []) (x1 := ([300] : List Int)) hb21_0_.1 (hg.up (hI.le.trans hb21_0_.2.1)) (Nat.le_refl 0) Sl.nil (Nat.le_refl _) hb21_0_.2.2 h).mono ?_
  rintro _ w21_ ⟨A21_0, c21_0, r21_0, L21_, H21_, rfl, hI21_, ho21_0, h⟩
  refine Exists.elim (hI.callB hb21_0_.2.1 hI21_ (by simp)) fun L210_ h21_ => Exists.elim h21_ fun H210_ h21_ => ?_
  have hz21_ := hI.size
  replace hI := h21_.1
  have u21_ := h21_.2.1
  have hl21_ := h21_.2.2.1
  have hh21_ := h21_.2.2.2
  clear h21_
  replace hs6_ := hs6_.up u21_.ll
  replace hs10_ := hs10_.up u21_.ll
  replace hs18_0_1 := hs18_0_1.up u21_.ll
  replace ht18_0 := ht18_0.up u21_ (by simp)
  replace ho21_0 := OwnS.backS ho21_0 hz21_ hh21_
  clear hI21_ u21_ hl21_
  refine ⟨_, rfl, ?_⟩
  refine Exists.elim (ho21_0.freeze hI) fun L22_ h22_ => Exists.elim h22_ fun H22_ h22_ => ?_
  replace hI := h22_.1
  have u22_ := h22_.2.1
  have hs22_ := h22_.2.2.1 (Le.no _)
  have hc22_ := ho21_0.cap
  replace hs6_ := hs6_.up u22_.ll
  replace hs10_ := hs10_.up u22_.ll
  replace hs18_0_1 := hs18_0_1.up u22_.ll
  replace ht18_0 := ht18_0.up u22_ (ht18_0.sep ho21_0 (by decide))
  clear h22_ u22_ ho21_0
  refine Ops_to (R_buildSlice TOtE.el22 TOtE.zr5 (by decide) (by decide) rfl rfl) rfl rfl ?_
  rintro _ w23_ ⟨b23_, rfl, hb23_, hB23_, hF23_⟩
  have ho23_ : OwnS w.heap.size 5 Gh.no H22_ _ (some ⟨b23_, 0, none⟩) 8 ([(0 : UInt8), (0 : UInt8), (0 : UInt8), (0 : UInt8), (0 : UInt8), (0 : UInt8), (1 : UInt8), (44 : UInt8)] : List UInt8) := OwnS.ofBlk hI.st hb23_ hB23_ (all2_sc' _) rfl (by have := hI.size; omega) (by show 8 ≤ maxLen; decide)
  replace hI := hI.fr0 hF23_
  replace ht18_0 := ht18_0.fr0 hF23_
  clear hF23_ hB23_
  refine Exists.elim (ho23_.lend hI.st (Le.no _)) fun Hb24_0_ hb24_0_ => ?_
  refine Ops_call (C_func TOtE.bd24 rfl) rfl rfl ?_
  refine (bytes_Equal_ok (x0 := r21_0) (x1 := ([(0 : UInt8), (0 : UInt8), (0 : UInt8), (0 : UInt8), (0 : UInt8), (0 : UInt8), (1 : UInt8), (44 : UInt8)] : List UInt8)) hb24_0_.1 (hg.up (hI.le.trans hb24_0_.2.1)) hc22_ ((hs22_.up hI.sub).up hb24_0_.2.1) (Nat.le_refl _) hb24_0_.2.2 h).mono ?_
  rintro _ w24_ ⟨r24_0, L24_, H24_, rfl, hI24_, h⟩
  refine Exists.elim (hI.callB hb24_0_.2.1 hI24_ (by simp)) fun L240_ h24_ => Exists.elim h24_ fun H240_ h24_ => ?_
  have hz24_ := hI.size
  replace hI := h24_.1
  have u24_ := h24_.2.1
  have hl24_ := h24_.2.2.1
  have hh24_ := h24_.2.2.2
  clear h24_
  replace hs6_ := hs6_.up u24_.ll
  replace hs10_ := hs10_.up u24_.ll
  replace hs18_0_1 := hs18_0_1.up u24_.ll
  replace ht18_0 := ht18_0.up u24_ (by simp)
  clear hI24_ u24_ hl24_
  refine ⟨_, rfl, ?_⟩
  refine Ops_step (R_move rfl) rfl rfl ?_
  refine Ops_splitB 27 rfl (fun hg25_ => ?_) (fun hg25_ => ?_)
  · replace h := h.1 hg25_
    refine Ops_call (C_func TOtE.bd35 rfl) rfl rfl ?_
    refine (octet_Sum_ok (x0 := []) hI.st (hg.up hI.le) (Nat.le_refl 0) Sl.nil h).mono ?_
    rintro _ w26_ ⟨r26_0, L26_, H26_, rfl, hI26_, h⟩
    refine Exists.elim (hI.call hI26_ (by simp)) fun L260_ h26_ => ?_
    have hz26_ := hI.size
    replace hI := h26_.1
    have u26_ := h26_.2.1
    have hl26_ := h26_.2.2
    clear h26_
    replace hs6_ := hs6_.up u26_.ll
    replace hs10_ := hs10_.up u26_.ll
    replace hs18_0_1 := hs18_0_1.up u26_.ll
    replace ht18_0 := ht18_0.up u26_ (by simp)
    clear hI26_ u26_ hl26_
    refine ⟨_, rfl, ?_⟩
    refine Ops_step (R_eql rfl rfl) rfl rfl ?_
    refine Ops_step (R_pick_true rfl rfl) rfl rfl ?_
    refine Ops_step (R_move rfl) rfl rfl ?_
    refine Ops_split 31 rfl (fun hg27_ => ?_) (fun hg27_ => ?_)
    · replace h := h.1 hg27_
      refine Ops_step (R_move rfl) rfl rfl ?_
      refine Ops_step (R_eql rfl rfl) rfl rfl ?_
      refine Ops_step (R_pick_true rfl rfl) rfl rfl ?_
      refine Ops_step (R_move rfl) rfl rfl ?_
      refine Ops_split 35 rfl (fun hg28_ => ?_) (fun hg28_ => ?_)
      · replace h := h.1 hg28_
        refine Ops_step (R_move rfl) rfl rfl ?_
        refine Ops_step (R_len Tryd.underlying22 rfl rfl) rfl rfl ?_
        refine Ops_step (R_eql rfl rfl) rfl rfl ?_
        refine Ops_step (R_pick_true rfl rfl) rfl rfl ?_
        refine Ops_step (R_move rfl) rfl rfl ?_
        refine Ops_split 40 rfl (fun hg29_ => ?_) (fun hg29_ => ?_)
        · replace h := h.1 hg29_
          refine Ops_step (R_move rfl) rfl rfl ?_
          refine Ops_step (X_bytesStr (bs := r9_0) Tryd.underlying22 Tryd.underlying5 Tryd.underlying9 rfl rfl ((hs10_.up hI.sub).fz.rd hI.st)) rfl rfl ?_
          refine Ops_step (R_strEqB rfl rfl) rfl rfl ?_
          refine Ops_step (R_pick_true rfl rfl) rfl rfl ?_
          refine Ops_step (R_move rfl) rfl rfl ?_
          refine Ops_split 45 rfl (fun hg30_ => ?_) (fun hg30_ => ?_)
          · replace h := h.1 hg30_
            refine Ops_step (R_move rfl) rfl rfl ?_
            refine Ops_step (R_eql rfl rfl) rfl rfl ?_
            refine Ops_step (R_pick_true rfl rfl) rfl rfl ?_
            refine Ops_step (R_move rfl) rfl rfl ?_
            refine Ops_split 49 rfl (fun hg31_ => ?_) (fun hg31_ => ?_)
            · replace h := h.1 hg31_
              refine Ops_step (R_move rfl) rfl rfl ?_
              refine Ops_step (R_eql rfl rfl) rfl rfl ?_
              refine Ops_step (R_pick_true rfl rfl) rfl rfl ?_
              refine Ops_step (R_move rfl) rfl rfl ?_
              refine Ops_split 53 rfl (fun hg32_ => ?_) (fun hg32_ => ?_)
              · replace h := h.1 hg32_
                refine Ops_step (R_move rfl) rfl rfl ?_
                refine Ops_call (C_func TOtE.bd20 rfl) rfl rfl ?_
                refine (octet_Reader_Number_ok (x0 := r18_0) hI.st (hg.up hI.le) ⟨_, ⟨A18_0_1, c18_0_1, rfl, ⟨hc18_0_1, (hs18_0_1.up hI.sub)⟩⟩, ht18_0⟩ h).mono ?_
                rintro _ w33_ ⟨r33_0, y33_0, L33_, H33_, rfl, hI33_, hq33_0, h⟩
                refine Exists.elim (hI.call hI33_ (new1 hge_d18_0)) fun L330_ h33_ => ?_
                have hz33_ := hI.size
                replace hI := h33_.1
                have u33_ := h33_.2.1
                have hl33_ := h33_.2.2
                clear h33_
                replace hs18_0_1 := hs18_0_1.up u33_.ll
                clear ht18_0
                obtain ⟨l33_0_, hl33_0_, ht33_0⟩ := hq33_0
                obtain ⟨A33_0_1, c33_0_1, rfl, ⟨hc33_0_1, hs33_0_1⟩⟩ := hl33_0_
                clear hI33_ u33_ hl33_
                refine ⟨_, rfl, ?_⟩
                refine Ops_step (R_eql rfl rfl) rfl rfl ?_
                refine Ops_step (R_pick_true rfl rfl) rfl rfl ?_
                refine Ops_step (R_move rfl) rfl rfl ?_
                refine Ops_split 58 rfl (fun hg34_ => ?_) (fun hg34_ => ?_)
                · replace h := h.1 hg34_
                  refine Ops_step (R_move rfl) rfl rfl ?_
                  refine Ops_call (C_func TOtE.bd22 rfl) rfl rfl ?_
                  refine (octet_Reader_Text_ok (x0 := y33_0) (x1 := 1) hI.st (hg.up hI.le) ⟨_, ⟨A33_0_1, c33_0_1, rfl, ⟨hc33_0_1, hs33_0_1⟩⟩, ht33_0⟩ h).mono ?_
                  rintro _ w35_ ⟨r35_0, y35_0, L35_, H35_, rfl, hI35_, hq35_0, h⟩
                  refine Exists.elim (hI.call hI35_ (new1 hge_d18_0)) fun L350_ h35_ => ?_
                  have hz35_ := hI.size
                  replace hI := h35_.1
                  have u35_ := h35_.2.1
                  have hl35_ := h35_.2.2
                  clear h35_
                  replace hs33_0_1 := hs33_0_1.up u35_.hh
                  clear ht33_0
                  obtain ⟨l35_0_, hl35_0_, ht35_0⟩ := hq35_0
                  obtain ⟨A35_0_1, c35_0_1, rfl, ⟨hc35_0_1, hs35_0_1⟩⟩ := hl35_0_
                  clear hI35_ u35_ hl35_
                  refine ⟨_, rfl, ?_⟩
                  refine Ops_step (R_strEqB rfl rfl) rfl rfl ?_
                  refine Ops_step (R_pick_true rfl rfl) rfl rfl ?_
                  refine Ops_step (R_move rfl) rfl rfl ?_
                  refine Ops_split 63 rfl (fun hg36_ => ?_) (fun hg36_ => ?_)
                  · replace h := h.1 hg36_
                    refine Ops_step (R_move rfl) rfl rfl ?_
                    refine Ops_call (C_func TOtE.bd38 rfl) rfl rfl ?_
                    refine (octet_Reader_End_ok (x0 := y35_0) hI.st (hg.up hI.le) ⟨_, ⟨A35_0_1, c35_0_1, rfl, ⟨hc35_0_1, hs35_0_1⟩⟩, ht35_0⟩ h).mono ?_
                    rintro _ w37_ ⟨r37_0, L37_, H37_, rfl, hI37_, h⟩
                    refine Exists.elim (hI.call hI37_ (by simp)) fun L370_ h37_ => ?_
                    have hz37_ := hI.size
                    replace hI := h37_.1
                    have u37_ := h37_.2.1
                    have hl37_ := h37_.2.2
                    clear h37_
                    clear hI37_ u37_ hl37_
                    refine ⟨_, rfl, ?_⟩
                    refine Ops_step (R_eql rfl rfl) rfl rfl ?_
                    refine Ops_step (R_pick_true rfl rfl) rfl rfl ?_
                    refine Ops_step (R_assign rfl) rfl rfl ?_
                    refine Ops_nil ?_
                    refine then_n (hK19_ _ _ ?_)
                    clear hK19_ K19_
                    refine W_keepB [0] fun B38 hB38_ => ?_
                    simp only [pickE, lookE, putE, zipE, args0, Nat.reduceAdd, Nat.zero_add, List.cons_append, List.nil_append, Nat.reduceBEq, cond_true, cond_false] at hB38_
                    subst hB38_
                    refine W_ret ?_
                    refine ⟨_, ⟨_, _, rfl, rfl, rfl⟩, ?_⟩
                    exact ⟨(decide (r37_0 = 0)), _, _, rfl, hI, h⟩
                  · replace h := h.2 hg36_
                    refine Ops_pass rfl rfl ?_
                    refine Ops_pass rfl rfl ?_
                    refine Ops_pass rfl rfl ?_
                    refine Ops_step (R_pick_false rfl rfl) rfl rfl ?_
                    refine Ops_step (R_assign rfl) rfl rfl ?_
                    refine Ops_nil ?_
                    refine then_n (hK19_ _ _ ?_)
                    clear hK19_ K19_
                    refine W_keepB [0] fun B39 hB39_ => ?_
                    simp only [pickE, lookE, putE, zipE, args0, Nat.reduceAdd, Nat.zero_add, List.cons_append, List.nil_append, Nat.reduceBEq, cond_true, cond_false] at hB39_
                    subst hB39_
                    refine W_ret ?_
                    refine ⟨_, ⟨_, _, rfl, rfl, rfl⟩, ?_⟩
                    exact ⟨false, _, _, rfl, hI, h⟩
                · replace h := h.2 hg34_
                  refine Ops_pass rfl rfl ?_
                  refine Ops_pass rfl rfl ?_
                  refine Ops_pass rfl rfl ?_
                  refine Ops_step (R_pick_false rfl rfl) rfl rfl ?_
                  refine Ops_step (R_move rfl) rfl rfl ?_
                  refine Ops_pass rfl rfl ?_
                  refine Ops_pass rfl rfl ?_
                  refine Ops_pass rfl rfl ?_
                  refine Ops_step (R_pick_false rfl rfl) rfl rfl ?_
                  refine Ops_step (R_assign rfl) rfl rfl ?_
                  refine Ops_nil ?_
                  refine then_n (hK19_ _ _ ?_)
                  clear hK19_ K19_
                  refine W_keepB [0] fun B40 hB40_ => ?_
                  simp only [pickE, lookE, putE, zipE, args0, Nat.reduceAdd, Nat.zero_add, List.cons_append, List.nil_append, Nat.reduceBEq, cond_true, cond_false] at hB40_
                  subst hB40_
                  refine W_ret ?_
                  refine ⟨_, ⟨_, _, rfl, rfl, rfl⟩, ?_⟩
                  exact ⟨false, _, _, rfl, hI, h⟩
              · replace h := h.2 hg32_
                refine Ops_pass rfl rfl ?_
                refine Ops_pass rfl rfl ?_
                refine Ops_pass rfl rfl ?_
                refine Ops_step (R_pick_false rfl rfl) rfl rfl ?_
                refine Ops_step (R_move rfl) rfl rfl ?_
                refine Ops_pass rfl rfl ?_
                refine Ops_pass rfl rfl ?_
                refine Ops_pass rfl rfl ?_
                refine Ops_step (R_pick_false rfl rfl) rfl rfl ?_
                refine Ops_step (R_move rfl) rfl rfl ?_
                refine Ops_pass rfl rfl ?_
                refine Ops_pass rfl rfl ?_
                refine Ops_pass rfl rfl ?_
                refine Ops_step (R_pick_false rfl rfl) rfl rfl ?_
                refine Ops_step (R_assign rfl) rfl rfl ?_
                refine Ops_nil ?_
                refine then_n (hK19_ _ _ ?_)
                clear hK19_ K19_
                refine W_keepB [0] fun B41 hB41_ => ?_
                simp only [pickE, lookE, putE, zipE, args0, Nat.reduceAdd, Nat.zero_add, List.cons_append, List.nil_append, Nat.reduceBEq, cond_true, cond_false] at hB41_
                subst hB41_
                refine W_ret ?_
                refine ⟨_, ⟨_, _, rfl, rfl, rfl⟩, ?_⟩
                exact ⟨false, _, _, rfl, hI, h⟩
            · replace h := h.2 hg31_
              refine Ops_pass rfl rfl ?_
              refine Ops_pass rfl rfl ?_
              refine Ops_step (R_pick_false rfl rfl) rfl rfl ?_
              refine Ops_step (R_move rfl) rfl rfl ?_
              refine Ops_pass rfl rfl ?_
              refine Ops_pass rfl rfl ?_
              refine Ops_pass rfl rfl ?_
              refine Ops_step (R_pick_false rfl rfl) rfl rfl ?_
              refine Ops_step (R_move rfl) rfl rfl ?_
              refine Ops_pass rfl rfl ?_
              refine Ops_pass rfl rfl ?_
              refine Ops_pass rfl rfl ?_
              refine Ops_step (R_pick_false rfl rfl) rfl rfl ?_
              refine Ops_step (R_move rfl) rfl rfl ?_
              refine Ops_pass rfl rfl ?_
              refine Ops_pass rfl rfl ?_
              refine Ops_pass rfl rfl ?_
              refine Ops_step (R_pick_false rfl rfl) rfl rfl ?_
              refine Ops_step (R_assign rfl) rfl rfl ?_
              refine Ops_nil ?_
              refine then_n (hK19_ _ _ ?_)
              clear hK19_ K19_
              refine W_keepB [0] fun B42 hB42_ => ?_
              simp only [pickE, lookE, putE, zipE, args0, Nat.reduceAdd, Nat.zero_add, List.cons_append, List.nil_append, Nat.reduceBEq, cond_true, cond_false] at hB42_
              subst hB42_
              refine W_ret ?_
              refine ⟨_, ⟨_, _, rfl, rfl, rfl⟩, ?_⟩
              exact ⟨false, _, _, rfl, hI, h⟩
          · replace h := h.2 hg30_
            refine Ops_pass rfl rfl ?_
            refine Ops_pass rfl rfl ?_
            refine Ops_step (R_pick_false rfl rfl) rfl rfl ?_
            refine Ops_step (R_move rfl) rfl rfl ?_
            refine Ops_pass rfl rfl ?_
            refine Ops_pass rfl rfl ?_
            refine Ops_step (R_pick_false rfl rfl) rfl rfl ?_
            refine Ops_step (R_move rfl) rfl rfl ?_
            refine Ops_pass rfl rfl ?_
            refine Ops_pass rfl rfl ?_
            refine Ops_pass rfl rfl ?_
            refine Ops_step (R_pick_false rfl rfl) rfl rfl ?_
            refine Ops_step (R_move rfl) rfl rfl ?_
            refine Ops_pass rfl rfl ?_
            refine Ops_pass rfl rfl ?_
            refine Ops_pass rfl rfl ?_
            refine Ops_step (R_pick_false rfl rfl) rfl rfl ?_
            refine Ops_step (R_move rfl) rfl rfl ?_
            refine Ops_pass rfl rfl ?_
            refine Ops_pass rfl rfl ?_
            refine Ops_pass rfl rfl ?_
            refine Ops_step (R_pick_false rfl rfl) rfl rfl ?_
            refine Ops_step (R_assign rfl) rfl rfl ?_
            refine Ops_nil ?_
            refine then_n (hK19_ _ _ ?_)
            clear hK19_ K19_
            refine W_keepB [0] fun B43 hB43_ => ?_
            simp only [pickE, lookE, putE, zipE, args0, Nat.reduceAdd, Nat.zero_add, List.cons_append, List.nil_append, Nat.reduceBEq, cond_true, cond_false] at hB43_
            subst hB43_
            refine W_ret ?_
            refine ⟨_, ⟨_, _, rfl, rfl, rfl⟩, ?_⟩
            exact ⟨false, _, _, rfl, hI, h⟩
        · replace h := h.2 hg29_
          refine Ops_pass rfl rfl ?_
          refine Ops_pass rfl rfl ?_
          refine Ops_pass rfl rfl ?_
          refine Ops_step (R_pick_false rfl rfl) rfl rfl ?_
          refine Ops_step (R_move rfl) rfl rfl ?_
          refine Ops_pass rfl rfl ?_
          refine Ops_pass rfl rfl ?_
          refine Ops_step (R_pick_false rfl rfl) rfl rfl ?_
          refine Ops_step (R_move rfl) rfl rfl ?_
          refine Ops_pass rfl rfl ?_
          refine Ops_pass rfl rfl ?_
          refine Ops_step (R_pick_false rfl rfl) rfl rfl ?_
          refine Ops_step (R_move rfl) rfl rfl ?_
          refine Ops_pass rfl rfl ?_
          refine Ops_pass rfl rfl ?_
          refine Ops_pass rfl rfl ?_
          refine Ops_step (R_pick_false rfl rfl) rfl rfl ?_
          refine Ops_step (R_move rfl) rfl rfl ?_
          refine Ops_pass rfl rfl ?_
          refine Ops_pass rfl rfl ?_
          refine Ops_pass rfl rfl ?_
          refine Ops_step (R_pick_false rfl rfl) rfl rfl ?_
          refine Ops_step (R_move rfl) rfl rfl ?_
          refine Ops_pass rfl rfl ?_
          refine Ops_pass rfl rfl ?_
          refine Ops_pass rfl rfl ?_
          refine Ops_step (R_pick_false rfl rfl) rfl rfl ?_
          refine Ops_step (R_assign rfl) rfl rfl ?_
          refine Ops_nil ?_
          refine then_n (hK19_ _ _ ?_)
          clear hK19_ K19_
          refine W_keepB [0] fun B44 hB44_ => ?_
          simp only [pickE, lookE, putE, zipE, args0, Nat.reduceAdd, Nat.zero_add, List.cons_append, List.nil_append, Nat.reduceBEq, cond_true, cond_false] at hB44_
          subst hB44_
          refine W_ret ?_
          refine ⟨_, ⟨_, _, rfl, rfl, rfl⟩, ?_⟩
          exact ⟨false, _, _, rfl, hI, h⟩
      · replace h := h.2 hg28_
        refine Ops_pass rfl rfl ?_
        refine Ops_pass rfl rfl ?_
        refine Ops_pass rfl rfl ?_
        refine Ops_step (R_pick_false rfl rfl) rfl rfl ?_
        refine Ops_step (R_move rfl) rfl rfl ?_
        refine Ops_pass rfl rfl ?_
        refine Ops_pass rfl rfl ?_
        refine Ops_pass rfl rfl ?_
        refine Ops_step (R_pick_false rfl rfl) rfl rfl ?_
        refine Ops_step (R_move rfl) rfl rfl ?_
        refine Ops_pass rfl rfl ?_
        refine Ops_pass rfl rfl ?_
        refine Ops_step (R_pick_false rfl rfl) rfl rfl ?_
        refine Ops_step (R_move rfl) rfl rfl ?_
        refine Ops_pass rfl rfl ?_
        refine Ops_pass rfl rfl ?_
        refine Ops_step (R_pick_false rfl rfl) rfl rfl ?_
        refine Ops_step (R_move rfl) rfl rfl ?_
        refine Ops_pass rfl rfl ?_
        refine Ops_pass rfl rfl ?_
        refine Ops_pass rfl rfl ?_
        refine Ops_step (R_pick_false rfl rfl) rfl rfl ?_
        refine Ops_step (R_move rfl) rfl rfl ?_
        refine Ops_pass rfl rfl ?_
        refine Ops_pass rfl rfl ?_
        refine Ops_pass rfl rfl ?_
        refine Ops_step (R_pick_false rfl rfl) rfl rfl ?_
        refine Ops_step (R_move rfl) rfl rfl ?_
        refine Ops_pass rfl rfl ?_
        refine Ops_pass rfl rfl ?_
        refine Ops_pass rfl rfl ?_
        refine Ops_step (R_pick_false rfl rfl) rfl rfl ?_
        refine Ops_step (R_assign rfl) rfl rfl ?_
        refine Ops_nil ?_
        refine then_n (hK19_ _ _ ?_)
        clear hK19_ K19_
        refine W_keepB [0] fun B45 hB45_ => ?_
        simp only [pickE, lookE, putE, zipE, args0, Nat.reduceAdd, Nat.zero_add, List.cons_append, List.nil_append, Nat.reduceBEq, cond_true, cond_false] at hB45_
        subst hB45_
        refine W_ret ?_
        refine ⟨_, ⟨_, _, rfl, rfl, rfl⟩, ?_⟩
        exact ⟨false, _, _, rfl, hI, h⟩
    · replace h := h.2 hg27_
      refine Ops_pass rfl rfl ?_
      refine Ops_pass rfl rfl ?_
      refine Ops_step (R_pick_false rfl rfl) rfl rfl ?_
      refine Ops_step (R_move rfl) rfl rfl ?_
      refine Ops_pass rfl rfl ?_
      refine Ops_pass rfl rfl ?_
      refine Ops_pass rfl rfl ?_
      refine Ops_step (R_pick_false rfl rfl) rfl rfl ?_
      refine Ops_step (R_move rfl) rfl rfl ?_
      refine Ops_pass rfl rfl ?_
      refine Ops_pass rfl rfl ?_
      refine Ops_pass rfl rfl ?_
      refine Ops_step (R_pick_false rfl rfl) rfl rfl ?_
      refine Ops_step (R_move rfl) rfl rfl ?_
      refine Ops_pass rfl rfl ?_
      refine Ops_pass rfl rfl ?_
      refine Ops_step (R_pick_false rfl rfl) rfl rfl ?_
      refine Ops_step (R_move rfl) rfl rfl ?_
      refine Ops_pass rfl rfl ?_
      refine Ops_pass rfl rfl ?_
      refine Ops_step (R_pick_false rfl rfl) rfl rfl ?_
      refine Ops_step (R_move rfl) rfl rfl ?_
      refine Ops_pass rfl rfl ?_
      refine Ops_pass rfl rfl ?_
      refine Ops_pass rfl rfl ?_
      refine Ops_step (R_pick_false rfl rfl) rfl rfl ?_
      refine Ops_step (R_move rfl) rfl rfl ?_
      refine Ops_pass rfl rfl ?_
      refine Ops_pass rfl rfl ?_
      refine Ops_pass rfl rfl ?_
      refine Ops_step (R_pick_false rfl rfl) rfl rfl ?_
      refine Ops_step (R_move rfl) rfl rfl ?_
      refine Ops_pass rfl rfl ?_
      refine Ops_pass rfl rfl ?_
      refine Ops_pass rfl rfl ?_
      refine Ops_step (R_pick_false rfl rfl) rfl rfl ?_
      refine Ops_step (R_assign rfl) rfl rfl ?_
      refine Ops_nil ?_
      refine then_n (hK19_ _ _ ?_)
      clear hK19_ K19_
      refine W_keepB [0] fun B46 hB46_ => ?_
      simp only [pickE, lookE, putE, zipE, args0, Nat.reduceAdd, Nat.zero_add, List.cons_append, List.nil_append, Nat.reduceBEq, cond_true, cond_false] at hB46_
      subst hB46_
      refine W_ret ?_
      refine ⟨_, ⟨_, _, rfl, rfl, rfl⟩, ?_⟩
      exact ⟨false, _, _, rfl, hI, h⟩
  · replace h := h.2 hg25_
    refine Ops_pass rfl rfl ?_
    refine Ops_pass rfl rfl ?_
    refine Ops_step (R_pick_false rfl rfl) rfl rfl ?_
    refine Ops_step (R_move rfl) rfl rfl ?_
    refine Ops_pass rfl rfl ?_
    refine Ops_pass rfl rfl ?_
    refine Ops_step (R_pick_false rfl rfl) rfl rfl ?_
    refine Ops_step (R_move rfl) rfl rfl ?_
    refine Ops_pass rfl rfl ?_
    refine Ops_pass rfl rfl ?_
    refine Ops_pass rfl rfl ?_
    refine Ops_step (R_pick_false rfl rfl) rfl rfl ?_
    refine Ops_step (R_move rfl) rfl rfl ?_
    refine Ops_pass rfl rfl ?_
    refine Ops_pass rfl rfl ?_
    refine Ops_pass rfl rfl ?_
    refine Ops_step (R_pick_false rfl rfl) rfl rfl ?_
    refine Ops_step (R_move rfl) rfl rfl ?_
    refine Ops_pass rfl rfl ?_
    refine Ops_pass rfl rfl ?_
    refine Ops_step (R_pick_false rfl rfl) rfl rfl ?_
    refine Ops_step (R_move rfl) rfl rfl ?_
    refine Ops_pass rfl rfl ?_
    refine Ops_pass rfl rfl ?_
    refine Ops_step (R_pick_false rfl rfl) rfl rfl ?_
    refine Ops_step (R_move rfl) rfl rfl ?_
    refine Ops_pass rfl rfl ?_
    refine Ops_pass rfl rfl ?_
    refine Ops_pass rfl rfl ?_
    refine Ops_step (R_pick_false rfl rfl) rfl rfl ?_
    refine Ops_step (R_move rfl) rfl rfl ?_
    refine Ops_pass rfl rfl ?_
    refine Ops_pass rfl rfl ?_
    refine Ops_pass rfl rfl ?_
    refine Ops_step (R_pick_false rfl rfl) rfl rfl ?_
    refine Ops_step (R_move rfl) rfl rfl ?_
    refine Ops_pass rfl rfl ?_
    refine Ops_pass rfl rfl ?_
    refine Ops_pass rfl rfl ?_
    refine Ops_step (R_pick_false rfl rfl) rfl rfl ?_
    refine Ops_step (R_assign rfl) rfl rfl ?_
    refine Ops_nil ?_
    refine then_n (hK19_ _ _ ?_)
    clear hK19_ K19_
    refine W_keepB [0] fun B47 hB47_ => ?_
    simp only [pickE, lookE, putE, zipE, args0, Nat.reduceAdd, Nat.zero_add, List.cons_append, List.nil_append, Nat.reduceBEq, cond_true, cond_false] at hB47_
    subst hB47_
    refine W_ret ?_
    refine ⟨_, ⟨_, _, rfl, rfl, rfl⟩, ?_⟩
    exact ⟨false, _, _, rfl, hI, h⟩

set_option maxHeartbeats 4000000 in
theorem slices_EqualFunc_bytes_ok {G : Gh} {w : World} (hS : St G w) (hg : GL G) {A0 : Option Addr} {c0 : Nat} {x0 : List (List UInt8)} (hc0 : x0.length ≤ c0) (hs0 : Sl G A0 x0) {A1 : Option Addr} {c1 : Nat} {x1 : List (List UInt8)} (hc1 : x1.length ≤ c1) (hs1 : Sl G A1 x1) {Q : Bool → Prop} (h : slices_EqualFunc_bytes x0 x1 Q) : Calls Tryd.prog 48 #[.slice A0 x0.length c0, .slice A1 x1.length c1, .func (.func 24) #[] #[]] w fun e w2 => ∃ (r0 : Bool) (L H : Gh), e = .returned (.bool r0) ∧ Inv [] G w L H w2 ∧ Q r0 := by
  unfold slices_EqualFunc_bytes at h
  have hI := Inv.start (M := []) hS
  refine calls_W 32 Tryd.func48 rfl Tryd.ntmps48 rfl [.tmp 6] rfl ?_
  refine W_seq_k fun K1_ hK1_ => ?_
  refine W_region [some 6] rfl ?_
  refine Ops_step (R_assign rfl) rfl rfl ?_
  refine Ops_nil ?_
  refine then_n (hK1_ _ _ ?_)
  clear hK1_ K1_
  refine W_seq_k fun K2_ hK2_ => ?_
  refine W_seq_k fun K3_ hK3_ => ?_
  refine W_region [some 10, some 11, some 12, some 13, some 14] rfl ?_
  refine Ops_step (R_move rfl) rfl rfl ?_
  refine Ops_step (R_len Tryd.underlying67 rfl rfl) rfl rfl ?_
  refine Ops_step (R_move rfl) rfl rfl ?_
  refine Ops_step (R_len Tryd.underlying67 rfl rfl) rfl rfl ?_
  refine Ops_step (R_neq rfl rfl) rfl rfl ?_
  refine Ops_nil ?_
  refine then_n (hK3_ _ _ ?_)
  clear hK3_ K3_
  refine W_if rfl (fun hc4_ => ?_) (fun hc4_ => ?_)
  · replace h := h.1 hc4_
    refine W_seq_k fun K5_ hK5_ => ?_
    refine W_region [some 6] rfl ?_
    refine Ops_step (R_assign rfl) rfl rfl ?_
    refine Ops_nil ?_
    refine then_n (hK5_ _ _ ?_)
    clear hK5_ K5_
    refine W_keepB [6] fun B6 hB6_ => ?_
    simp only [pickE, lookE, putE, zipE, args0, Nat.reduceAdd, Nat.zero_add, List.cons_append, List.nil_append, Nat.reduceBEq, cond_true, cond_false] at hB6_
    subst hB6_
    refine W_ret ?_
    refine then_ret ?_
    clear hK2_ K2_
    refine ⟨_, ⟨_, _, rfl, rfl, rfl⟩, ?_⟩
    exact ⟨false, _, _, rfl, hI, h⟩
  · replace h := h.2 hc4_
    refine W_skip ?_
    refine then_n (hK2_ _ _ ?_)
    clear hK2_ K2_
    refine W_keepB [0, 1, 2] fun B7 hB7_ => ?_
    simp only [pickE, lookE, putE, zipE, args0, Nat.reduceAdd, Nat.zero_add, List.cons_append, List.nil_append, Nat.reduceBEq, cond_true, cond_false] at hB7_
    subst hB7_
    refine Exists.elim h fun J8_ h => ?_
    have hr8_ := h.1
    replace h := h.2
    refine W_seq_join [] [] (fun vs w2 => ∃  (L H : Gh), vs = [] ∧ J8_ ∧ Inv [] G w L H w2 ∧ Le Gh.no L ∧ Le G H ∧ True) (fun B8 hB8_ => ?_) (fun B8 hB8_ => ?_)
    · simp only [pickE, lookE, putE, zipE, args0, Nat.reduceAdd, Nat.zero_add, List.cons_append, List.nil_append, Nat.reduceBEq, cond_true, cond_false] at hB8_
      subst hB8_
      clear hr8_
      have hll8_ := Le.refl Gh.no
      have hhh8_ := Le.refl G
      refine W_seq_k fun K9_ hK9_ => ?_
      refine W_region [some 15, some 16, some 17] rfl ?_
      refine Ops_step (R_move rfl) rfl rfl ?_
      refine Ops_step (R_len Tryd.underlying67 rfl rfl) rfl rfl ?_
      refine Ops_step (R_move rfl) rfl rfl ?_
      refine Ops_nil ?_
      refine then_n (hK9_ _ _ ?_)
      clear hK9_ K9_
      refine W_block ?_
      refine Exists.elim h fun I10_ h => Exists.elim h fun n10_ h => ?_
      have h0_ := h.1
      have hs10_ := h.2
      clear h
      refine W_loopB [1, 2, 15, 16] [17] (fun m vs w2 => ∃ (x17_10 : Int) (L H : Gh), vs = [vi x17_10] ∧ I10_ m x17_10 ∧ Inv [] G w L H w2 ∧ Le Gh.no L ∧ Le G H ∧ True) n10_ _ rfl ⟨0, _, _, rfl, h0_, hI, Le.refl _, Le.refl _, trivial⟩ fun B10 hB10_ => ?_
      clear h0_
      simp only [pickE, lookE, putE, zipE, args0, Nat.reduceAdd, Nat.zero_add, List.cons_append, List.nil_append, Nat.reduceBEq, cond_true, cond_false] at hB10_
      subst hB10_
      rintro m10_ _ w10_ ⟨x17_10, L10_, H10_, rfl, hJ10_, hI10_, hll10_, hhh10_, -⟩
      replace hI := hI10_
      clear hI10_
      have h := hs10_ m10_ x17_10 hJ10_
      clear hs10_ hJ10_
      replace hs0 := hs0.up hhh10_
      replace hs1 := hs1.up hhh10_
      replace hll8_ := hll8_.trans hll10_
      replace hhh8_ := hhh8_.trans hhh10_
      refine W_seq_k fun K11_ hK11_ => ?_
      refine W_region [some 18] rfl ?_
      refine Ops_step (R_lss rfl rfl) rfl rfl ?_
      refine Ops_nil ?_
      refine then_n (hK11_ _ _ ?_)
      clear hK11_ K11_
      refine W_seq_k fun K12_ hK12_ => ?_
      refine W_if rfl (fun hc13_ => ?_) (fun hc13_ => ?_)
      · replace h := h.1 hc13_
        refine W_skip ?_
        refine then_n (hK12_ _ _ ?_)
        clear hK12_ K12_
        refine W_seq_k fun K14_ hK14_ => ?_
        refine W_block ?_
        refine W_seq_k fun K15_ hK15_ => ?_
        refine W_region [some 19, some 20, some 21, some 7, some 8] rfl ?_
        refine Ops_step (R_move rfl) rfl rfl ?_
        refine Exists.elim h fun x16_ h => ?_
        have hx16_ := h.1
        replace h := h.2
        have ha16_ := (hs0.atL hx16_).1
        refine Exists.elim (hs0.atL hx16_).2 fun A16_ hA16_ => Exists.elim hA16_ fun c16_ hA16_ => ?_
        have hc16_ := hA16_.1
        have hs16_ := hA16_.2.1
        have hg16_ := hA16_.2.2
        clear hA16_
        refine Ops_step (R_indexSl Tryd.underlying67 TOtE.sz22 rfl rfl hx16_.1 hx16_.lt ha16_) rfl rfl ?_
        refine Ops_step (R_load TOtE.ag22 rfl (hI.st _ _ hg16_)) rfl rfl ?_
        refine Ops_step (R_assign rfl) rfl rfl ?_
        refine Ops_step (R_assign rfl) rfl rfl ?_
        refine Ops_nil ?_
        refine then_n (hK15_ _ _ ?_)
        clear hK15_ K15_
        refine W_seq_k fun K17_ hK17_ => ?_
        refine W_region [some 22, some 23, some 24, some 25, some 9] rfl ?_
        refine Ops_step (R_move rfl) rfl rfl ?_
        refine Ops_step (R_move rfl) rfl rfl ?_
        refine Exists.elim h fun x18_ h => ?_
        have hx18_ := h.1
        replace h := h.2
        have ha18_ := (hs1.atL hx18_).1
        refine Exists.elim (hs1.atL hx18_).2 fun A18_ hA18_ => Exists.elim hA18_ fun c18_ hA18_ => ?_
        have hc18_ := hA18_.1
        have hs18_ := hA18_.2.1
        have hg18_ := hA18_.2.2
        clear hA18_
        refine Ops_step (R_indexSl Tryd.underlying67 TOtE.sz22 rfl rfl hx18_.1 hx18_.lt ha18_) rfl rfl ?_
        refine Ops_step (R_load TOtE.ag22 rfl (hI.st _ _ hg18_)) rfl rfl ?_
        refine Ops_step (R_assign rfl) rfl rfl ?_
        refine Ops_nil ?_
        refine then_n (hK17_ _ _ ?_)
        clear hK17_ K17_
        refine W_keepB [1, 2, 8, 9, 15, 16, 17] fun B19 hB19_ => ?_
        simp only [pickE, lookE, putE, zipE, args0, Nat.reduceAdd, Nat.zero_add, List.cons_append, List.nil_append, Nat.reduceBEq, cond_true, cond_false] at hB19_
        subst hB19_
        refine W_seq_k fun K20_ hK20_ => ?_
        refine W_region [some 26, some 27, some 28, some 29, some 30] rfl ?_
        refine Ops_step (R_move rfl) rfl rfl ?_
        refine Ops_step (R_move rfl) rfl rfl ?_
        refine Ops_step (R_move rfl) rfl rfl ?_
        refine Ops_call (C_val TOtE.bd24 rfl rfl) rfl rfl ?_
        refine (bytes_Equal_ok (x0 := x16_) (x1 := x18_) hI.st (hg.up hI.le) hc16_ hs16_ hc18_ hs18_ h).mono ?_
        rintro _ w21_ ⟨r21_0, L21_, H21_, rfl, hI21_, h⟩
        refine Exists.elim (hI.call hI21_ (by simp)) fun L210_ h21_ => ?_
        have hz21_ := hI.size
        replace hI := h21_.1
        have u21_ := h21_.2.1
        have hl21_ := h21_.2.2
        clear h21_
        replace hs0 := hs0.up u21_.hh
        replace hs1 := hs1.up u21_.hh
        replace hll8_ := hll8_.trans u21_.ll
        replace hhh8_ := hhh8_.trans u21_.hh
        replace hll10_ := hll10_.trans u21_.ll
        replace hhh10_ := hhh10_.trans u21_.hh
        clear hI21_ u21_ hl21_
        refine ⟨_, rfl, ?_⟩
        refine Ops_step (R_not rfl) rfl rfl ?_
        refine Ops_nil ?_
        refine then_n (hK20_ _ _ ?_)
        clear hK20_ K20_
        refine W_keepB [1, 2, 15, 16, 17, 30] fun B22 hB22_ => ?_
        simp only [pickE, lookE, putE, zipE, args0, Nat.reduceAdd, Nat.zero_add, List.cons_append, List.nil_append, Nat.reduceBEq, cond_true, cond_false] at hB22_
        subst hB22_
        refine W_cond rfl (fun hc23_ => ?_) (fun hc23_ => ?_)
        · replace h := h.1 hc23_
          refine W_seq_k fun K24_ hK24_ => ?_
          refine W_region [some 6] rfl ?_
          refine Ops_step (R_assign rfl) rfl rfl ?_
          refine Ops_nil ?_
          refine then_n (hK24_ _ _ ?_)
          clear hK24_ K24_
          refine W_keepB [6] fun B25 hB25_ => ?_
          simp only [pickE, lookE, putE, zipE, args0, Nat.reduceAdd, Nat.zero_add, List.cons_append, List.nil_append, Nat.reduceBEq, cond_true, cond_false] at hB25_
          subst hB25_
          refine W_ret ?_
          refine block_ret ?_
          refine then_ret ?_
          clear hK14_ K14_
          refine then_ret ?_
          refine block_ret ?_
          refine then_ret ?_
          refine ⟨_, ⟨_, _, rfl, rfl, rfl⟩, ?_⟩
          exact ⟨false, _, _, rfl, hI, h⟩
        · replace h := h.2 hc23_
          refine W_skip ?_
          refine block_n ?_
          refine then_n (hK14_ _ _ ?_)
          clear hK14_ K14_
          refine W_region [some 31, some 17] rfl ?_
          have hk26_ := h.1
          replace h := h.2
          refine Ops_step (R_add rfl rfl (wI hk26_.1 hk26_.2)) rfl rfl ?_
          refine Ops_step (R_move rfl) rfl rfl ?_
          refine Ops_nil ?_
          refine then_n ?_
          exact h.elim fun m_ h => ⟨m_, _, h.1, rfl, ⟨(x17_10 + 1), _, _, rfl, h.2, hI, hll10_, hhh10_, trivial⟩, ⟨rfl, rfl, rfl, rfl, trivial⟩⟩
      · replace h := h.2 hc13_
        refine W_exit ?_
        refine then_exit ?_
        clear hK12_ K12_
        refine then_exit ?_
        refine block_exit ?_
        refine then_n ?_
        exact ⟨_, rfl, ⟨_, _, rfl, h, hI, hll8_, hhh8_, trivial⟩, trivial⟩
    · simp only [pickE, lookE, putE, zipE, args0, Nat.reduceAdd, Nat.zero_add, List.cons_append, List.nil_append, Nat.reduceBEq, cond_true, cond_false] at hB8_
      subst hB8_
      clear h
      rintro _ w8_ ⟨L8_, H8_, rfl, hJ8_, hI8_, hll8_, hhh8_, -⟩
      replace hI := hI8_
      clear hI8_
      have h := hr8_ hJ8_
      clear hr8_ hJ8_
      refine W_seq_k fun K27_ hK27_ => ?_
      refine W_region [some 6] rfl ?_
      refine Ops_step (R_assign rfl) rfl rfl ?_
      refine Ops_nil ?_
      refine then_n (hK27_ _ _ ?_)
      clear hK27_ K27_
      refine W_ret ?_
      refine ⟨_, ⟨_, _, rfl, rfl, rfl⟩, ?_⟩
      exact ⟨true, _, _, rfl, hI, h⟩

end Go.Proofs.YtdnpdljnjoegiaaDoor
