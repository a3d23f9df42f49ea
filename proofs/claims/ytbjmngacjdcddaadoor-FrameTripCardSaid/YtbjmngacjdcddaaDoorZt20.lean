/- What is shown of the program on the way to the law FrameTrip. -/
import Derived.Test.YtbjmngacjdcddaaDoorZt2
import Derived.Test.YtbjmngacjdcddaaDoorZt16
import Derived.Test.YtbjmngacjdcddaaDoorZt19
import Derived.Test.YtbjmngacjdcddaaDoorProg
set_option linter.unusedVariables false
set_option linter.unusedSimpArgs false
namespace Go.Proofs.YtbjmngacjdcddaaDoor
open Go Go.Sx Go.Lx
namespace TFtL
theorem hm : Tryd.prog.follows .mixedOrders = true := by kernel_rfl
theorem ag23 : aggB Tryd.prog 23 = some false := by kernel_rfl
theorem ag3 : aggB Tryd.prog 3 = some false := by kernel_rfl
theorem ag9 : aggB Tryd.prog 9 = some false := by kernel_rfl
theorem bd20 : bodied Tryd.prog 20 = true := by kernel_rfl
theorem bd23 : bodied Tryd.prog 23 = true := by kernel_rfl
theorem bd27 : bodied Tryd.prog 27 = true := by kernel_rfl
theorem bd30 : bodied Tryd.prog 30 = true := by kernel_rfl
theorem fo25_8 : offB Tryd.prog 25 8 = some 8 := by kernel_rfl
theorem fo32_2 : offB Tryd.prog 32 2 = some 2 := by kernel_rfl
theorem fo54_2 : offB Tryd.prog 54 2 = some 2 := by kernel_rfl
theorem pl25 : partPl Tryd.prog 25 = some [(0, 1), (1, 1), (2, 1), (3, 1), (4, 1), (5, 1), (6, 1), (7, 1), (8, 1)] := by kernel_rfl
theorem pl32 : partPl Tryd.prog 32 = some [(0, 1), (1, 1), (2, 1), (3, 1)] := by kernel_rfl
theorem sz32 : sz Tryd.prog 32 = some 4 := by kernel_rfl
theorem sz54 : sz Tryd.prog 54 = some 3 := by kernel_rfl
theorem zr25 : zr Tryd.prog 25 = some ([.int .i64 0] ++ [.int .i64 0] ++ [.int .i64 0] ++ [.int .i64 0] ++ [.int .i64 0] ++ [.int .i64 0] ++ [.int .i64 0] ++ [.int .i64 0] ++ [.slice none 0 0]) := by kernel_rfl
theorem zr32 : zr Tryd.prog 32 = some ([.int .i64 0] ++ [.int .i64 0] ++ [.int .i64 0] ++ [.slice none 0 0]) := by kernel_rfl
end TFtL
set_option maxHeartbeats 4000000 in
theorem sealskinlaw13_awake_ok {G : Gh} {w : World} (hS : St G w) (hg : GL G)  {Q : Bool → Prop} (h : sealskinlaw13_awake  Q) : Calls Tryd.prog 13 #[] w fun e w2 => ∃ (r0 : Bool) (L H : Gh), e = .returned (.bool r0) ∧ Inv [] G w L H w2 ∧ Q r0 := by
 unfold sealskinlaw13_awake at h
 have hI := Inv.start (M := []) hS
 refine calls_W 68 Tryd.func13 rfl Tryd.ntmps13 rfl [.tmp 0] rfl ?_
 refine W_seq_k fun K1_ hK1_ => ?_
 refine W_region [some 0] rfl ?_
 refine Ops_step (R_assign rfl) rfl rfl ?_
 refine Ops_nil ?_
 refine then_n (hK1_ _ _ ?_)
 clear hK1_ K1_
 refine W_seq_k fun K2_ hK2_ => ?_
 refine W_region [some 11, some 12, some 10, some 13, some 14, some 1, some 2] rfl ?_
 refine Ops_step (R_build (pl := [(0, 1)]) (cs := [vi 5, vi 0, vi 0, vi 0, vi 0, vi 0, vi 0, vi 0, .slice none 0 0]) TFtL.zr25 TFtL.pl25 rfl rfl rfl) rfl rfl ?_
 refine Ops_call (C_func TFtL.bd23 rfl) rfl rfl ?_
 refine (frame_Put_ok (x0 := (api_Msg.mk 5 0 0 0 0 0 0 0 [])) hI.st (hg.up hI.le) ⟨none, 0, rfl, ⟨(Nat.le_refl 0), Sl.nil⟩⟩ h).mono ?_
 rintro _ w3_ ⟨A3_0, c3_0, r3_0, r3_1, L3_, H3_, rfl, hI3_, ho3_0, h⟩
 refine Exists.elim (hI.call hI3_ (by simp)) fun L30_ h3_ => ?_
 have hz3_ := hI.size
 replace hI := h3_.1
 have u3_ := h3_.2.1
 have hl3_ := h3_.2.2
 clear h3_
 replace ho3_0 := OwnS.backS ho3_0 hz3_ (Le.refl _)
 clear hI3_ u3_ hl3_
 refine ⟨_, rfl, ?_⟩
 refine Exists.elim (ho3_0.freeze hI) fun L4_ h4_ => Exists.elim h4_ fun H4_ h4_ => ?_
 replace hI := h4_.1
 have u4_ := h4_.2.1
 have hs4_ := h4_.2.2.1 (Le.no _)
 have hc4_ := ho3_0.cap
 clear h4_ u4_ ho3_0
 refine Ops_step (R_move rfl) rfl rfl ?_
 refine Ops_step (R_extract (v := .slice A3_0 r3_0.length c3_0) rfl rfl) rfl rfl ?_
 refine Ops_step (R_extract (v := vi r3_1) rfl rfl) rfl rfl ?_
 refine Ops_step (R_assign rfl) rfl rfl ?_
 refine Ops_step (R_assign rfl) rfl rfl ?_
 refine Ops_nil ?_
 refine then_n (hK2_ _ _ ?_)
 clear hK2_ K2_
 refine W_keepB [1, 2] fun B5 hB5_ => ?_
 simp only [pickE, lookE, putE, zipE, args0, Nat.reduceAdd, za_, ca_, na_, Nat.reduceBEq, ct_, cf_] at hB5_
 subst hB5_
 refine W_seq_k fun K6_ hK6_ => ?_
 refine W_region [some 15, some 3] rfl ?_
 refine Ops_call (C_func TFtL.bd27 rfl) rfl rfl ?_
 refine (frame_Key_ok (x0 := (Str.mk [115])) (x1 := 1) (x2 := 2) hI.st (hg.up hI.le)  h).mono ?_
 rintro _ w7_ ⟨A7_0, c7_0, r7_0, L7_, H7_, rfl, hI7_, hc7_0, hs7_0, h⟩
 refine Exists.elim (hI.call hI7_ (by simp)) fun L70_ h7_ => ?_
 have hz7_ := hI.size
 replace hI := h7_.1
 have u7_ := h7_.2.1
 have hl7_ := h7_.2.2
 clear h7_
 replace hs4_ := hs4_.up u7_.ll
 replace hs7_0 := hs7_0.up hl7_
 clear hI7_ u7_ hl7_
 refine ⟨_, rfl, ?_⟩
 refine Ops_step (R_assign rfl) rfl rfl ?_
 refine Ops_nil ?_
 refine then_n (hK6_ _ _ ?_)
 clear hK6_ K6_
 refine W_seq_k fun K8_ hK8_ => ?_
 refine W_region [some 17, some 18, some 19, some 16, some 20, some 21, some 4, some 5] rfl ?_
 refine Ops_step (R_move rfl) rfl rfl ?_
 refine Ops_step (R_build (pl := [(0, 1), (2, 1)]) (cs := [vi 2, vi 0, vi 3, .slice none 0 0]) TFtL.zr32 TFtL.pl32 rfl rfl rfl) rfl rfl ?_
 refine Ops_call (C_func TFtL.bd30 rfl) rfl rfl ?_
 refine (frame_Wrap_ok (x0 := r7_0) (x1 := true) (x2 := (api_Frame.mk 2 0 3 [])) hI.st (hg.up hI.le) hc7_0 (hs7_0.up hI.sub) ⟨none, 0, rfl, ⟨(Nat.le_refl 0), Sl.nil⟩⟩ h).mono ?_
 rintro _ w9_ ⟨A9_0, c9_0, r9_0, r9_1, L9_, H9_, rfl, hI9_, hc9_0, hs9_0, h⟩
 refine Exists.elim (hI.call hI9_ (by simp)) fun L90_ h9_ => ?_
 have hz9_ := hI.size
 replace hI := h9_.1
 have u9_ := h9_.2.1
 have hl9_ := h9_.2.2
 clear h9_
 replace hs4_ := hs4_.up u9_.ll
 replace hs7_0 := hs7_0.up u9_.ll
 replace hs9_0 := hs9_0.up hl9_
 clear hI9_ u9_ hl9_
 refine ⟨_, rfl, ?_⟩
 refine Ops_step (R_move rfl) rfl rfl ?_
 refine Ops_step (R_extract (v := .slice A9_0 r9_0.length c9_0) rfl rfl) rfl rfl ?_
 refine Ops_step (R_extract (v := vi r9_1) rfl rfl) rfl rfl ?_
 refine Ops_step (R_assign rfl) rfl rfl ?_
 refine Ops_step (R_assign rfl) rfl rfl ?_
 refine Ops_nil ?_
 refine then_n (hK8_ _ _ ?_)
 clear hK8_ K8_
 refine W_keepB [1, 2, 3, 4, 5] fun B10 hB10_ => ?_
 simp only [pickE, lookE, putE, zipE, args0, Nat.reduceAdd, za_, ca_, na_, Nat.reduceBEq, ct_, cf_] at hB10_
 subst hB10_
 refine W_seq_k fun K11_ hK11_ => ?_
 refine W_region [some 23, some 24, some 25, some 22, some 26, some 27, some 6, none, some 7] rfl ?_
 refine Ops_step (R_move rfl) rfl rfl ?_
 refine Ops_step (R_move rfl) rfl rfl ?_
 refine Ops_call (C_func TFtL.bd20 rfl) rfl rfl ?_
 refine (frame_Unwrap_ok (x0 := r7_0) (x1 := true) (x2 := r9_0) hI.st (hg.up hI.le) hc7_0 (hs7_0.up hI.sub) hc9_0 (hs9_0.up hI.sub) h).mono ?_
 rintro _ w12_ ⟨l12_0, r12_0, r12_1, L12_, H12_, rfl, hI12_, hr12_0, h⟩
 refine Exists.elim (hI.call hI12_ (by simp)) fun L120_ h12_ => ?_
 have hz12_ := hI.size
 replace hI := h12_.1
 have u12_ := h12_.2.1
 have hl12_ := h12_.2.2
 clear h12_
 replace hs4_ := hs4_.up u12_.ll
 replace hs7_0 := hs7_0.up u12_.ll
 replace hs9_0 := hs9_0.up u12_.ll
 obtain ⟨A12_0_1, c12_0_1, rfl, ⟨hc12_0_1, hs12_0_1⟩⟩ := hr12_0
 clear hI12_ u12_ hl12_
 refine ⟨_, rfl, ?_⟩
 refine Ops_step (R_move rfl) rfl rfl ?_
 refine Ops_step (R_extract (v := .agg #[vi r12_0.Conn_, vi r12_0.Seq_, vi r12_0.Ack_, .slice A12_0_1 r12_0.Body_.length c12_0_1]) rfl rfl) rfl rfl ?_
 refine Ops_step (R_extract (v := vi r12_1) rfl rfl) rfl rfl ?_
 have hI0_ := hI
 refine Ops_to (R_alloc TFtL.zr32) rfl rfl ?_
 rintro _ w13_ ⟨b13_, rfl, hb13_, hB13_, hF13_⟩
 replace hI := hI.fr0 hF13_
 have ht13_ : Tok H12_ _ b13_ 32 ([vi 0, vi 0, vi 0, .slice none 0 0]) := ⟨hB13_.to rfl, Out.ge hI0_.st (Nat.le_of_eq hb13_.symm)⟩
 have hge_b13_ : w.heap.size ≤ b13_ := hb13_ ▸ hI0_.size
 clear hB13_ hb13_ hI0_ hF13_
 refine Ops_to0 (R_storeN TFtL.sz32 rfl rfl rfl ht13_.blk (Nat.le_of_ble_eq_true rfl) rfl) rfl ?_
 rintro _ w14_ ⟨hB14_, hF14_⟩
 replace hI := hI.tok hF14_ (out1 ht13_.out) (new1 hge_b13_)
 replace ht13_ : Tok H12_ _ b13_ 32 ([vi r12_0.Conn_, vi r12_0.Seq_, vi r12_0.Ack_, .slice A12_0_1 r12_0.Body_.length c12_0_1]) := ⟨hB14_, ht13_.out⟩
 clear hF14_ hB14_
 refine Ops_step (R_assign rfl) rfl rfl ?_
 refine Ops_nil ?_
 refine then_n (hK11_ _ _ ?_)
 clear hK11_ K11_
 refine W_keepB [1, 2, 3, 4, 5, 6, 7] fun B15 hB15_ => ?_
 simp only [pickE, lookE, putE, zipE, args0, Nat.reduceAdd, za_, ca_, na_, Nat.reduceBEq, ct_, cf_] at hB15_
 subst hB15_
 refine W_seq_k fun K16_ hK16_ => ?_
 refine W_region [some 29, some 30, some 31, some 28, some 32, some 33, some 8, none, some 9] rfl ?_
 refine Ops_step (R_move rfl) rfl rfl ?_
 refine Ops_step (R_move rfl) rfl rfl ?_
 refine Ops_call (C_func TFtL.bd20 rfl) rfl rfl ?_
 refine (frame_Unwrap_ok (x0 := r7_0) (x1 := false) (x2 := r9_0) hI.st (hg.up hI.le) hc7_0 (hs7_0.up hI.sub) hc9_0 (hs9_0.up hI.sub) h).mono ?_
 rintro _ w17_ ⟨l17_0, r17_0, r17_1, L17_, H17_, rfl, hI17_, hr17_0, h⟩
 refine Exists.elim (hI.call hI17_ (by simp)) fun L170_ h17_ => ?_
 have hz17_ := hI.size
 replace hI := h17_.1
 have u17_ := h17_.2.1
 have hl17_ := h17_.2.2
 clear h17_
 replace hs4_ := hs4_.up u17_.ll
 replace hs7_0 := hs7_0.up u17_.ll
 replace hs9_0 := hs9_0.up u17_.ll
 replace hs12_0_1 := hs12_0_1.up u17_.hh
 replace ht13_ := ht13_.up u17_ (by simp)
 obtain ⟨A17_0_1, c17_0_1, rfl, ⟨hc17_0_1, hs17_0_1⟩⟩ := hr17_0
 clear hI17_ u17_ hl17_
 refine ⟨_, rfl, ?_⟩
 refine Ops_step (R_move rfl) rfl rfl ?_
 refine Ops_step (R_extract (v := .agg #[vi r17_0.Conn_, vi r17_0.Seq_, vi r17_0.Ack_, .slice A17_0_1 r17_0.Body_.length c17_0_1]) rfl rfl) rfl rfl ?_
 refine Ops_step (R_extract (v := vi r17_1) rfl rfl) rfl rfl ?_
 have hlo18_b13_ := ht13_.blk.lt
 have hI0_ := hI
 refine Ops_to (R_alloc TFtL.zr32) rfl rfl ?_
 rintro _ w18_ ⟨b18_, rfl, hb18_, hB18_, hF18_⟩
 replace hI := hI.fr0 hF18_
 replace ht13_ := ht13_.fr0 hF18_
 have ht18_ : Tok H17_ _ b18_ 32 ([vi 0, vi 0, vi 0, .slice none 0 0]) := ⟨hB18_.to rfl, Out.ge hI0_.st (Nat.le_of_eq hb18_.symm)⟩
 have hge_b18_ : w.heap.size ≤ b18_ := hb18_ ▸ hI0_.size
 have hne18_b13_ : b13_ ≠ b18_ := fun e_ => absurd hlo18_b13_ (by omega)
 clear hB18_ hb18_ hI0_ hF18_
 refine Ops_to0 (R_storeN TFtL.sz32 rfl rfl rfl ht18_.blk (Nat.le_of_ble_eq_true rfl) rfl) rfl ?_
 rintro _ w19_ ⟨hB19_, hF19_⟩
 replace hI := hI.tok hF19_ (out1 ht18_.out) (new1 hge_b18_)
 replace ht13_ := ht13_.fr hF19_ (ne1 hne18_b13_)
 replace ht18_ : Tok H17_ _ b18_ 32 ([vi r17_0.Conn_, vi r17_0.Seq_, vi r17_0.Ack_, .slice A17_0_1 r17_0.Body_.length c17_0_1]) := ⟨hB19_, ht18_.out⟩
 clear hF19_ hB19_
 refine Ops_step (R_assign rfl) rfl rfl ?_
 refine Ops_nil ?_
 refine then_n (hK16_ _ _ ?_)
 clear hK16_ K16_
 refine W_keepB [1, 2, 3, 4, 5, 6, 7, 9] fun B20 hB20_ => ?_
 simp only [pickE, lookE, putE, zipE, args0, Nat.reduceAdd, za_, ca_, na_, Nat.reduceBEq, ct_, cf_] at hB20_
 subst hB20_
 refine W_seq_k fun K21_ hK21_ => ?_
 refine W_region [some 34, some 35, some 36, some 37, some 38, some 39, some 40, some 41, some 42, some 43, some 44, some 45, some 46, some 47, some 48, some 49, some 50, some 51, some 52, some 53, some 54, some 55, some 56, some 57, some 58, some 59, some 60, some 61, some 62, some 63, some 64, some 65, some 66, some 67, some 0] rfl ?_
 refine Ops_step (R_move rfl) rfl rfl ?_
 refine Ops_step (R_eql rfl rfl) rfl rfl ?_
 refine Ops_step (R_move rfl) rfl rfl ?_
 refine Ops_split 36 rfl (fun hg22_ => ?_) (fun hg22_ => ?_)
 ·
  replace h := h.1 hg22_
  refine Ops_step (R_move rfl) rfl rfl ?_
  refine Ops_step (R_len Tryd.underlying30 rfl rfl) rfl rfl ?_
  refine Ops_step (R_eql rfl rfl) rfl rfl ?_
  refine Ops_step (R_pick_true rfl rfl) rfl rfl ?_
  refine Ops_step (R_move rfl) rfl rfl ?_
  refine Ops_split 41 rfl (fun hg23_ => ?_) (fun hg23_ => ?_)
  ·
   replace h := h.1 hg23_
   refine Ops_step (R_move rfl) rfl rfl ?_
   refine Ops_step (R_eql rfl rfl) rfl rfl ?_
   refine Ops_step (R_pick_true rfl rfl) rfl rfl ?_
   refine Ops_step (R_move rfl) rfl rfl ?_
   refine Ops_split 45 rfl (fun hg24_ => ?_) (fun hg24_ => ?_)
   ·
    replace h := h.1 hg24_
    refine Ops_step (R_move rfl) rfl rfl ?_
    refine Ops_step (R_len Tryd.underlying30 rfl rfl) rfl rfl ?_
    refine Ops_step (R_eql rfl rfl) rfl rfl ?_
    refine Ops_step (R_pick_true rfl rfl) rfl rfl ?_
    refine Ops_step (R_move rfl) rfl rfl ?_
    refine Ops_split 50 rfl (fun hg25_ => ?_) (fun hg25_ => ?_)
    ·
     replace h := h.1 hg25_
     refine Ops_step (R_move rfl) rfl rfl ?_
     refine Ops_step (R_eql rfl rfl) rfl rfl ?_
     refine Ops_step (R_pick_true rfl rfl) rfl rfl ?_
     refine Ops_step (R_move rfl) rfl rfl ?_
     refine Ops_split 54 rfl (fun hg26_ => ?_) (fun hg26_ => ?_)
     ·
      replace h := h.1 hg26_
      refine Ops_step (R_fieldAddr TFtL.fo32_2 rfl) rfl rfl ?_
      refine Ops_step (R_loadB (v := vi r12_0.Ack_) TFtL.ag3 rfl ht13_.blk rfl) rfl rfl ?_
      refine Ops_step (R_eql rfl rfl) rfl rfl ?_
      refine Ops_step (R_pick_true rfl rfl) rfl rfl ?_
      refine Ops_step (R_move rfl) rfl rfl ?_
      refine Ops_split 59 rfl (fun hg27_ => ?_) (fun hg27_ => ?_)
      ·
       replace h := h.1 hg27_
       refine Ops_step (R_move rfl) rfl rfl ?_
       refine Ops_step (R_eql rfl rfl) rfl rfl ?_
       refine Ops_step (R_pick_true rfl rfl) rfl rfl ?_
       refine Ops_step (R_move rfl) rfl rfl ?_
       refine Ops_split 63 rfl (fun hg28_ => ?_) (fun hg28_ => ?_)
       ·
        replace h := h.1 hg28_
        refine Ops_step (R_move rfl) rfl rfl ?_
        refine Ops_step (R_len Tryd.underlying30 rfl rfl) rfl rfl ?_
        refine Ops_step (R_eql rfl rfl) rfl rfl ?_
        refine Ops_step (R_pick_true rfl rfl) rfl rfl ?_
        refine Ops_step (R_assign rfl) rfl rfl ?_
        refine Ops_nil ?_
        refine then_n (hK21_ _ _ ?_)
        clear hK21_ K21_
        refine W_keepB [0] fun B29 hB29_ => ?_
        simp only [pickE, lookE, putE, zipE, args0, Nat.reduceAdd, za_, ca_, na_, Nat.reduceBEq, ct_, cf_] at hB29_
        subst hB29_
        refine W_ret ?_
        refine ⟨_, ⟨_, _, rfl, rfl, rfl⟩, ?_⟩
        exact ⟨(decide ((r7_0.length : Int) = 64)), _, _, rfl, hI, h⟩
       ·
        replace h := h.2 hg28_
        refine Ops_pass rfl rfl ?_
        refine Ops_pass rfl rfl ?_
        refine Ops_pass rfl rfl ?_
        refine Ops_step (R_pick_false rfl rfl) rfl rfl ?_
        refine Ops_step (R_assign rfl) rfl rfl ?_
        refine Ops_nil ?_
        refine then_n (hK21_ _ _ ?_)
        clear hK21_ K21_
        refine W_keepB [0] fun B30 hB30_ => ?_
        simp only [pickE, lookE, putE, zipE, args0, Nat.reduceAdd, za_, ca_, na_, Nat.reduceBEq, ct_, cf_] at hB30_
        subst hB30_
        refine W_ret ?_
        refine ⟨_, ⟨_, _, rfl, rfl, rfl⟩, ?_⟩
        exact ⟨false, _, _, rfl, hI, h⟩
      ·
       replace h := h.2 hg27_
       refine Ops_pass rfl rfl ?_
       refine Ops_pass rfl rfl ?_
       refine Ops_step (R_pick_false rfl rfl) rfl rfl ?_
       refine Ops_step (R_move rfl) rfl rfl ?_
       refine Ops_pass rfl rfl ?_
       refine Ops_pass rfl rfl ?_
       refine Ops_pass rfl rfl ?_
       refine Ops_step (R_pick_false rfl rfl) rfl rfl ?_
       refine Ops_step (R_assign rfl) rfl rfl ?_
       refine Ops_nil ?_
       refine then_n (hK21_ _ _ ?_)
       clear hK21_ K21_
       refine W_keepB [0] fun B31 hB31_ => ?_
       simp only [pickE, lookE, putE, zipE, args0, Nat.reduceAdd, za_, ca_, na_, Nat.reduceBEq, ct_, cf_] at hB31_
       subst hB31_
       refine W_ret ?_
       refine ⟨_, ⟨_, _, rfl, rfl, rfl⟩, ?_⟩
       exact ⟨false, _, _, rfl, hI, h⟩
     ·
      replace h := h.2 hg26_
      refine Ops_pass rfl rfl ?_
      refine Ops_pass rfl rfl ?_
      refine Ops_pass rfl rfl ?_
      refine Ops_step (R_pick_false rfl rfl) rfl rfl ?_
      refine Ops_step (R_move rfl) rfl rfl ?_
      refine Ops_pass rfl rfl ?_
      refine Ops_pass rfl rfl ?_
      refine Ops_step (R_pick_false rfl rfl) rfl rfl ?_
      refine Ops_step (R_move rfl) rfl rfl ?_
      refine Ops_pass rfl rfl ?_
      refine Ops_pass rfl rfl ?_
      refine Ops_pass rfl rfl ?_
      refine Ops_step (R_pick_false rfl rfl) rfl rfl ?_
      refine Ops_step (R_assign rfl) rfl rfl ?_
      refine Ops_nil ?_
      refine then_n (hK21_ _ _ ?_)
      clear hK21_ K21_
      refine W_keepB [0] fun B32 hB32_ => ?_
      simp only [pickE, lookE, putE, zipE, args0, Nat.reduceAdd, za_, ca_, na_, Nat.reduceBEq, ct_, cf_] at hB32_
      subst hB32_
      refine W_ret ?_
      refine ⟨_, ⟨_, _, rfl, rfl, rfl⟩, ?_⟩
      exact ⟨false, _, _, rfl, hI, h⟩
    ·
     replace h := h.2 hg25_
     refine Ops_pass rfl rfl ?_
     refine Ops_pass rfl rfl ?_
     refine Ops_step (R_pick_false rfl rfl) rfl rfl ?_
     refine Ops_step (R_move rfl) rfl rfl ?_
     refine Ops_pass rfl rfl ?_
     refine Ops_pass rfl rfl ?_
     refine Ops_pass rfl rfl ?_
     refine Ops_step (R_pick_false rfl rfl) rfl rfl ?_
     refine Ops_step (R_move rfl) rfl rfl ?_
     refine Ops_pass rfl rfl ?_
     refine Ops_pass rfl rfl ?_
     refine Ops_step (R_pick_false rfl rfl) rfl rfl ?_
     refine Ops_step (R_move rfl) rfl rfl ?_
     refine Ops_pass rfl rfl ?_
     refine Ops_pass rfl rfl ?_
     refine Ops_pass rfl rfl ?_
     refine Ops_step (R_pick_false rfl rfl) rfl rfl ?_
     refine Ops_step (R_assign rfl) rfl rfl ?_
     refine Ops_nil ?_
     refine then_n (hK21_ _ _ ?_)
     clear hK21_ K21_
     refine W_keepB [0] fun B33 hB33_ => ?_
     simp only [pickE, lookE, putE, zipE, args0, Nat.reduceAdd, za_, ca_, na_, Nat.reduceBEq, ct_, cf_] at hB33_
     subst hB33_
     refine W_ret ?_
     refine ⟨_, ⟨_, _, rfl, rfl, rfl⟩, ?_⟩
     exact ⟨false, _, _, rfl, hI, h⟩
   ·
    replace h := h.2 hg24_
    refine Ops_pass rfl rfl ?_
    refine Ops_pass rfl rfl ?_
    refine Ops_pass rfl rfl ?_
    refine Ops_step (R_pick_false rfl rfl) rfl rfl ?_
    refine Ops_step (R_move rfl) rfl rfl ?_
    refine Ops_pass rfl rfl ?_
    refine Ops_pass rfl rfl ?_
    refine Ops_step (R_pick_false rfl rfl) rfl rfl ?_
    refine Ops_step (R_move rfl) rfl rfl ?_
    refine Ops_pass rfl rfl ?_
    refine Ops_pass rfl rfl ?_
    refine Ops_pass rfl rfl ?_
    refine Ops_step (R_pick_false rfl rfl) rfl rfl ?_
    refine Ops_step (R_move rfl) rfl rfl ?_
    refine Ops_pass rfl rfl ?_
    refine Ops_pass rfl rfl ?_
    refine Ops_step (R_pick_false rfl rfl) rfl rfl ?_
    refine Ops_step (R_move rfl) rfl rfl ?_
    refine Ops_pass rfl rfl ?_
    refine Ops_pass rfl rfl ?_
    refine Ops_pass rfl rfl ?_
    refine Ops_step (R_pick_false rfl rfl) rfl rfl ?_
    refine Ops_step (R_assign rfl) rfl rfl ?_
    refine Ops_nil ?_
    refine then_n (hK21_ _ _ ?_)
    clear hK21_ K21_
    refine W_keepB [0] fun B34 hB34_ => ?_
    simp only [pickE, lookE, putE, zipE, args0, Nat.reduceAdd, za_, ca_, na_, Nat.reduceBEq, ct_, cf_] at hB34_
    subst hB34_
    refine W_ret ?_
    refine ⟨_, ⟨_, _, rfl, rfl, rfl⟩, ?_⟩
    exact ⟨false, _, _, rfl, hI, h⟩
  ·
   replace h := h.2 hg23_
   refine Ops_pass rfl rfl ?_
   refine Ops_pass rfl rfl ?_
   refine Ops_step (R_pick_false rfl rfl) rfl rfl ?_
   refine Ops_step (R_move rfl) rfl rfl ?_
   refine Ops_pass rfl rfl ?_
   refine Ops_pass rfl rfl ?_
   refine Ops_pass rfl rfl ?_
   refine Ops_step (R_pick_false rfl rfl) rfl rfl ?_
   refine Ops_step (R_move rfl) rfl rfl ?_
   refine Ops_pass rfl rfl ?_
   refine Ops_pass rfl rfl ?_
   refine Ops_step (R_pick_false rfl rfl) rfl rfl ?_
   refine Ops_step (R_move rfl) rfl rfl ?_
   refine Ops_pass rfl rfl ?_
   refine Ops_pass rfl rfl ?_
   refine Ops_pass rfl rfl ?_
   refine Ops_step (R_pick_false rfl rfl) rfl rfl ?_
   refine Ops_step (R_move rfl) rfl rfl ?_
   refine Ops_pass rfl rfl ?_
   refine Ops_pass rfl rfl ?_
   refine Ops_step (R_pick_false rfl rfl) rfl rfl ?_
   refine Ops_step (R_move rfl) rfl rfl ?_
   refine Ops_pass rfl rfl ?_
   refine Ops_pass rfl rfl ?_
   refine Ops_pass rfl rfl ?_
   refine Ops_step (R_pick_false rfl rfl) rfl rfl ?_
   refine Ops_step (R_assign rfl) rfl rfl ?_
   refine Ops_nil ?_
   refine then_n (hK21_ _ _ ?_)
   clear hK21_ K21_
   refine W_keepB [0] fun B35 hB35_ => ?_
   simp only [pickE, lookE, putE, zipE, args0, Nat.reduceAdd, za_, ca_, na_, Nat.reduceBEq, ct_, cf_] at hB35_
   subst hB35_
   refine W_ret ?_
   refine ⟨_, ⟨_, _, rfl, rfl, rfl⟩, ?_⟩
   exact ⟨false, _, _, rfl, hI, h⟩
 ·
  replace h := h.2 hg22_
  refine Ops_pass rfl rfl ?_
  refine Ops_pass rfl rfl ?_
  refine Ops_pass rfl rfl ?_
  refine Ops_step (R_pick_false rfl rfl) rfl rfl ?_
  refine Ops_step (R_move rfl) rfl rfl ?_
  refine Ops_pass rfl rfl ?_
  refine Ops_pass rfl rfl ?_
  refine Ops_step (R_pick_false rfl rfl) rfl rfl ?_
  refine Ops_step (R_move rfl) rfl rfl ?_
  refine Ops_pass rfl rfl ?_
  refine Ops_pass rfl rfl ?_
  refine Ops_pass rfl rfl ?_
  refine Ops_step (R_pick_false rfl rfl) rfl rfl ?_
  refine Ops_step (R_move rfl) rfl rfl ?_
  refine Ops_pass rfl rfl ?_
  refine Ops_pass rfl rfl ?_
  refine Ops_step (R_pick_false rfl rfl) rfl rfl ?_
  refine Ops_step (R_move rfl) rfl rfl ?_
  refine Ops_pass rfl rfl ?_
  refine Ops_pass rfl rfl ?_
  refine Ops_pass rfl rfl ?_
  refine Ops_step (R_pick_false rfl rfl) rfl rfl ?_
  refine Ops_step (R_move rfl) rfl rfl ?_
  refine Ops_pass rfl rfl ?_
  refine Ops_pass rfl rfl ?_
  refine Ops_step (R_pick_false rfl rfl) rfl rfl ?_
  refine Ops_step (R_move rfl) rfl rfl ?_
  refine Ops_pass rfl rfl ?_
  refine Ops_pass rfl rfl ?_
  refine Ops_pass rfl rfl ?_
  refine Ops_step (R_pick_false rfl rfl) rfl rfl ?_
  refine Ops_step (R_assign rfl) rfl rfl ?_
  refine Ops_nil ?_
  refine then_n (hK21_ _ _ ?_)
  clear hK21_ K21_
  refine W_keepB [0] fun B36 hB36_ => ?_
  simp only [pickE, lookE, putE, zipE, args0, Nat.reduceAdd, za_, ca_, na_, Nat.reduceBEq, ct_, cf_] at hB36_
  subst hB36_
  refine W_ret ?_
  refine ⟨_, ⟨_, _, rfl, rfl, rfl⟩, ?_⟩
  exact ⟨false, _, _, rfl, hI, h⟩

end Go.Proofs.YtbjmngacjdcddaaDoor

