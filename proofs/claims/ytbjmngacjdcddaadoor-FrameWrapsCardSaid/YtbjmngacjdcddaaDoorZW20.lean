/- What is shown of the program on the way to the law. -/
import Derived.Test.YtbjmngacjdcddaaDoorZW2
import Derived.Test.YtbjmngacjdcddaaDoorZW16
import Derived.Test.YtbjmngacjdcddaaDoorZW19
import Derived.Test.YtbjmngacjdcddaaDoorProg
set_option linter.unusedVariables false
set_option linter.unusedSimpArgs false
set_option maxHeartbeats 4000000
namespace Go.Proofs.YtbjmngacjdcddaaDoor
open Go Go.Sx Go.Lx
namespace TFtL
theorem hm : Tryd.prog.follows .mixedOrders = true := by kernel_rfl
theorem ag23 : aggB Tryd.prog 23 = some false := by kernel_rfl
theorem ag3 : aggB Tryd.prog 3 = some false := by kernel_rfl
theorem ag9 : aggB Tryd.prog 9 = some false := by kernel_rfl
theorem bd20 : bodied Tryd.prog 20 = true := by kernel_rfl
theorem bd23 : bodied Tryd.prog 23 = true := by kernel_rfl
theorem bd27 : bodied Tryd.prog 27 = true := by kernel_rfl
theorem bd30 : bodied Tryd.prog 30 = true := by kernel_rfl
theorem fo25_8 : offB Tryd.prog 25 8 = some 8 := by kernel_rfl
theorem fo32_2 : offB Tryd.prog 32 2 = some 2 := by kernel_rfl
theorem fo54_2 : offB Tryd.prog 54 2 = some 2 := by kernel_rfl
theorem pl25 : partPl Tryd.prog 25 = some [(0, 1), (1, 1), (2, 1), (3, 1), (4, 1), (5, 1), (6, 1), (7, 1), (8, 1)] := by kernel_rfl
theorem pl32 : partPl Tryd.prog 32 = some [(0, 1), (1, 1), (2, 1), (3, 1)] := by kernel_rfl
theorem sz32 : sz Tryd.prog 32 = some 4 := by kernel_rfl
theorem sz54 : sz Tryd.prog 54 = some 3 := by kernel_rfl
theorem zr25 : zr Tryd.prog 25 = some ([.int .i64 0] ++ [.int .i64 0] ++ [.int .i64 0] ++ [.int .i64 0] ++ [.int .i64 0] ++ [.int .i64 0] ++ [.int .i64 0] ++ [.int .i64 0] ++ [.slice none 0 0]) := by kernel_rfl
theorem zr32 : zr Tryd.prog 32 = some ([.int .i64 0] ++ [.int .i64 0] ++ [.int .i64 0] ++ [.slice none 0 0]) := by kernel_rfl
end TFtL
open TFtL
theorem sealskinlaw13_awake_ok {G : Gh} {w : World} (hS : St G w) (hg : GL G)  {Q : Bool → Prop} (h : sealskinlaw13_awake  Q) : Calls Tryd.prog 13 #[] w fun e w2 => ∃ (r0 : Bool) (L H : Gh), e = .returned (.bool r0) ∧ Inv [] G w L H w2 ∧ Q r0 := by
 unfold sealskinlaw13_awake at h
 have hI := Inv.start (M := []) hS
 refine calls_W 68 Tryd.func13 rfl Tryd.ntmps13 rfl [.tmp 0] rfl ?_
 refine W_seq_k fun K1 k1 => ?_
 refine W_region [0] rfl (Ops_step (R_assign rfl) rfl rfl ?_)
 refine Ops_nil ?_
 refine then_n (k1 _ _ ?_)
 clear k1 K1
 refine W_seq_k fun K2 k2 => ?_
 refine W_region [11, 12, 10, 13, 14, 1, 2] rfl ?_
 refine Ops_step (R_build (pl := [(0, 1)]) (cs := [vi 5, vi 0, vi 0, vi 0, vi 0, vi 0, vi 0, vi 0, .slice none 0 0]) zr25 pl25 rfl rfl rfl) rfl rfl ?_
 refine Ops_call (C_func bd23 rfl) rfl rfl ?_
 refine (frame_Put_ok (x0 := (api_Msg.mk 5 0 0 0 0 0 0 0 [])) hI.st (hg.up hI.le) ⟨none, 0, rfl, ⟨(Nat.le_refl 0), Sl.nil⟩⟩ h).mono ?_
 rintro _ w3_ ⟨A3_0, c3_0, r3_0, r3_1, L3_, H3_, rfl, hI3_, ho3_0, h⟩
 refine Exists.elim (hI.call hI3_ (by simp)) fun L30_ h3_ => ?_
 have hz3_ := hI.size
 replace hI := h3_.1
 have u3_ := h3_.2.1
 have hl3_ := h3_.2.2
 clear h3_
 replace ho3_0 := OwnS.backS ho3_0 hz3_ (Le.refl _)
 clear hI3_ u3_ hl3_
 refine ⟨_, rfl, ?_⟩
 refine Exists.elim (ho3_0.freeze hI) fun L4_ h4_ => Exists.elim h4_ fun H4_ h4_ => ?_
 replace hI := h4_.1
 have u4_ := h4_.2.1
 have hs4_ := h4_.2.2.1 (Le.no _)
 have hc4_ := ho3_0.cap
 clear h4_ u4_ ho3_0
 refine Ops_step (R_move rfl) rfl rfl ?_
 refine Ops_step (R_extract (v := .slice A3_0 r3_0.length c3_0) rfl rfl) rfl rfl ?_
 refine Ops_step (R_extract (v := vi r3_1) rfl rfl) rfl rfl ?_
 refine Ops_step (R_assign rfl) rfl rfl (Ops_step (R_assign rfl) rfl rfl ?_)
 refine Ops_nil ?_
 refine then_n (k2 _ _ ?_)
 clear k2 K2
 refine W_keepB [1, 2] fun B_ b_ => ?_
 simp only [e_, Nat.reduceAdd, Nat.reduceBEq] at b_
 subst b_
 refine W_seq_k fun K6 k6 => ?_
 refine W_region [15, 3] rfl ?_
 refine Ops_call (C_func bd27 rfl) rfl rfl ?_
 refine (frame_Key_ok (x0 := (Str.mk [115])) (x1 := 1) (x2 := 2) hI.st (hg.up hI.le)  h).mono ?_
 rintro _ w7_ ⟨A7_0, c7_0, r7_0, L7_, H7_, rfl, hI7_, hc7_0, hs7_0, h⟩
 refine Exists.elim (hI.call hI7_ (by simp)) fun L70_ h7_ => ?_
 have hz7_ := hI.size
 replace hI := h7_.1
 have u7_ := h7_.2.1
 have hl7_ := h7_.2.2
 clear h7_
 replace hs4_ := hs4_.up u7_.ll
 replace hs7_0 := hs7_0.up hl7_
 clear hI7_ u7_ hl7_
 refine ⟨_, rfl, ?_⟩
 refine Ops_step (R_assign rfl) rfl rfl ?_
 refine Ops_nil ?_
 refine then_n (k6 _ _ ?_)
 clear k6 K6
 refine W_seq_k fun K8 k8 => ?_
 refine W_region [17, 18, 19, 16, 20, 21, 4, 5] rfl (Ops_step (R_move rfl) rfl rfl ?_)
 refine Ops_step (R_build (pl := [(0, 1), (2, 1)]) (cs := [vi 2, vi 0, vi 3, .slice none 0 0]) zr32 pl32 rfl rfl rfl) rfl rfl ?_
 refine Ops_call (C_func bd30 rfl) rfl rfl ?_
 refine (frame_Wrap_ok (x0 := r7_0) (x1 := true) (x2 := (api_Frame.mk 2 0 3 [])) hI.st (hg.up hI.le) hc7_0 (hs7_0.up hI.sub) ⟨none, 0, rfl, ⟨(Nat.le_refl 0), Sl.nil⟩⟩ h).mono ?_
 rintro _ w9_ ⟨A9_0, c9_0, r9_0, r9_1, L9_, H9_, rfl, hI9_, hc9_0, hs9_0, h⟩
 refine Exists.elim (hI.call hI9_ (by simp)) fun L90_ h9_ => ?_
 have hz9_ := hI.size
 replace hI := h9_.1
 have u9_ := h9_.2.1
 have hl9_ := h9_.2.2
 clear h9_
 replace hs4_ := hs4_.up u9_.ll
 replace hs7_0 := hs7_0.up u9_.ll
 replace hs9_0 := hs9_0.up hl9_
 clear hI9_ u9_ hl9_
 refine ⟨_, rfl, ?_⟩
 refine Ops_step (R_move rfl) rfl rfl ?_
 refine Ops_step (R_extract (v := .slice A9_0 r9_0.length c9_0) rfl rfl) rfl rfl ?_
 refine Ops_step (R_extract (v := vi r9_1) rfl rfl) rfl rfl ?_
 refine Ops_step (R_assign rfl) rfl rfl (Ops_step (R_assign rfl) rfl rfl ?_)
 refine Ops_nil ?_
 refine then_n (k8 _ _ ?_)
 clear k8 K8
 refine W_keepB [1, 2, 3, 4, 5] fun B_ b_ => ?_
 simp only [e_, Nat.reduceAdd, Nat.reduceBEq] at b_
 subst b_
 refine W_seq_k fun K11 k11 => ?_
 refine W_region [23, 24, 25, 22, 26, 27, 6, none, 7] rfl (Ops_step (R_move rfl) rfl rfl (Ops_step (R_move rfl) rfl rfl ?_))
 refine Ops_call (C_func bd20 rfl) rfl rfl ?_
 refine (frame_Unwrap_ok (x0 := r7_0) (x1 := true) (x2 := r9_0) hI.st (hg.up hI.le) hc7_0 (hs7_0.up hI.sub) hc9_0 (hs9_0.up hI.sub) h).mono ?_
 rintro _ w12_ ⟨l12_0, r12_0, r12_1, L12_, H12_, rfl, hI12_, hr12_0, h⟩
 refine Exists.elim (hI.call hI12_ (by simp)) fun L120_ h12_ => ?_
 have hz12_ := hI.size
 replace hI := h12_.1
 have u12_ := h12_.2.1
 have hl12_ := h12_.2.2
 clear h12_
 replace hs4_ := hs4_.up u12_.ll
 replace hs7_0 := hs7_0.up u12_.ll
 replace hs9_0 := hs9_0.up u12_.ll
 obtain ⟨A12_0_1, c12_0_1, rfl, ⟨hc12_0_1, hs12_0_1⟩⟩ := hr12_0
 clear hI12_ u12_ hl12_
 refine ⟨_, rfl, ?_⟩
 refine Ops_step (R_move rfl) rfl rfl ?_
 refine Ops_step (R_extract (v := .agg #[vi r12_0.Conn_, vi r12_0.Seq_, vi r12_0.Ack_, .slice A12_0_1 r12_0.Body_.length c12_0_1]) rfl rfl) rfl rfl ?_
 refine Ops_step (R_extract (v := vi r12_1) rfl rfl) rfl rfl ?_
 have hI0_ := hI
 refine Ops_to (R_alloc zr32) rfl rfl ?_
 rintro _ w13_ ⟨b13_, rfl, hb13_, hB13_, hF13_⟩
 replace hI := hI.fr0 hF13_
 have ht13_ : Tok H12_ _ b13_ 32 ([vi 0, vi 0, vi 0, .slice none 0 0]) := ⟨hB13_.to rfl, Out.ge hI0_.st (Nat.le_of_eq hb13_.symm)⟩
 have hge_b13_ : w.heap.size ≤ b13_ := hb13_ ▸ hI0_.size
 clear hB13_ hb13_ hI0_ hF13_
 refine Ops_to0 (R_storeN sz32 rfl rfl rfl ht13_.blk (Nat.le_of_ble_eq_true rfl) rfl) rfl ?_
 rintro _ w14_ ⟨hB14_, hF14_⟩
 replace hI := hI.tok hF14_ (out1 ht13_.out) (new1 hge_b13_)
 replace ht13_ : Tok H12_ _ b13_ 32 ([vi r12_0.Conn_, vi r12_0.Seq_, vi r12_0.Ack_, .slice A12_0_1 r12_0.Body_.length c12_0_1]) := ⟨hB14_, ht13_.out⟩
 clear hF14_ hB14_
 refine Ops_step (R_assign rfl) rfl rfl ?_
 refine Ops_nil ?_
 refine then_n (k11 _ _ ?_)
 clear k11 K11
 refine W_keepB [1, 2, 3, 4, 5, 6, 7] fun B_ b_ => ?_
 simp only [e_, Nat.reduceAdd, Nat.reduceBEq] at b_
 subst b_
 refine W_seq_k fun K16 k16 => ?_
 refine W_region [29, 30, 31, 28, 32, 33, 8, none, 9] rfl (Ops_step (R_move rfl) rfl rfl (Ops_step (R_move rfl) rfl rfl ?_))
 refine Ops_call (C_func bd20 rfl) rfl rfl ?_
 refine (frame_Unwrap_ok (x0 := r7_0) (x1 := false) (x2 := r9_0) hI.st (hg.up hI.le) hc7_0 (hs7_0.up hI.sub) hc9_0 (hs9_0.up hI.sub) h).mono ?_
 rintro _ w17_ ⟨l17_0, r17_0, r17_1, L17_, H17_, rfl, hI17_, hr17_0, h⟩
 refine Exists.elim (hI.call hI17_ (by simp)) fun L170_ h17_ => ?_
 have hz17_ := hI.size
 replace hI := h17_.1
 have u17_ := h17_.2.1
 have hl17_ := h17_.2.2
 clear h17_
 replace hs4_ := hs4_.up u17_.ll
 replace hs7_0 := hs7_0.up u17_.ll
 replace hs9_0 := hs9_0.up u17_.ll
 replace hs12_0_1 := hs12_0_1.up u17_.hh
 replace ht13_ := ht13_.up u17_ (by simp)
 obtain ⟨A17_0_1, c17_0_1, rfl, ⟨hc17_0_1, hs17_0_1⟩⟩ := hr17_0
 clear hI17_ u17_ hl17_
 refine ⟨_, rfl, ?_⟩
 refine Ops_step (R_move rfl) rfl rfl ?_
 refine Ops_step (R_extract (v := .agg #[vi r17_0.Conn_, vi r17_0.Seq_, vi r17_0.Ack_, .slice A17_0_1 r17_0.Body_.length c17_0_1]) rfl rfl) rfl rfl ?_
 refine Ops_step (R_extract (v := vi r17_1) rfl rfl) rfl rfl ?_
 have hlo18_b13_ := ht13_.blk.lt
 have hI0_ := hI
 refine Ops_to (R_alloc zr32) rfl rfl ?_
 rintro _ w18_ ⟨b18_, rfl, hb18_, hB18_, hF18_⟩
 replace hI := hI.fr0 hF18_
 replace ht13_ := ht13_.fr0 hF18_
 have ht18_ : Tok H17_ _ b18_ 32 ([vi 0, vi 0, vi 0, .slice none 0 0]) := ⟨hB18_.to rfl, Out.ge hI0_.st (Nat.le_of_eq hb18_.symm)⟩
 have hge_b18_ : w.heap.size ≤ b18_ := hb18_ ▸ hI0_.size
 have hne18_b13_ : b13_ ≠ b18_ := fun e_ => absurd hlo18_b13_ (by omega)
 clear hB18_ hb18_ hI0_ hF18_
 refine Ops_to0 (R_storeN sz32 rfl rfl rfl ht18_.blk (Nat.le_of_ble_eq_true rfl) rfl) rfl ?_
 rintro _ w19_ ⟨hB19_, hF19_⟩
 replace hI := hI.tok hF19_ (out1 ht18_.out) (new1 hge_b18_)
 replace ht13_ := ht13_.fr hF19_ (ne1 hne18_b13_)
 replace ht18_ : Tok H17_ _ b18_ 32 ([vi r17_0.Conn_, vi r17_0.Seq_, vi r17_0.Ack_, .slice A17_0_1 r17_0.Body_.length c17_0_1]) := ⟨hB19_, ht18_.out⟩
 clear hF19_ hB19_
 refine Ops_step (R_assign rfl) rfl rfl ?_
 refine Ops_nil ?_
 refine then_n (k16 _ _ ?_)
 clear k16 K16
 refine W_keepB [1, 2, 3, 4, 5, 6, 7, 9] fun B_ b_ => ?_
 simp only [e_, Nat.reduceAdd, Nat.reduceBEq] at b_
 subst b_
 refine W_seq_k fun K21 k21 => ?_
 refine W_region [34, 35, 36, 37, 38, 39, 40, 41, 42, 43, 44, 45, 46, 47, 48, 49, 50, 51, 52, 53, 54, 55, 56, 57, 58, 59, 60, 61, 62, 63, 64, 65, 66, 67, 0] rfl (Ops_step (R_move rfl) rfl rfl (Ops_step (R_eql rfl rfl) rfl rfl (Ops_step (R_move rfl) rfl rfl ?_)))
 refine Ops_split 36 rfl (fun hg22_ => ?_) (fun hg22_ => ?_)
 ·
  replace h := h.1 hg22_
  refine Ops_step (R_move rfl) rfl rfl (Ops_step (R_len Tryd.underlying30 rfl rfl) rfl rfl (Ops_step (R_eql rfl rfl) rfl rfl (Ops_step (R_pick_true rfl rfl) rfl rfl (Ops_step (R_move rfl) rfl rfl ?_))))
  refine Ops_split 41 rfl (fun hg23_ => ?_) (fun hg23_ => ?_)
  ·
   replace h := h.1 hg23_
   refine Ops_step (R_move rfl) rfl rfl (Ops_step (R_eql rfl rfl) rfl rfl (Ops_step (R_pick_true rfl rfl) rfl rfl (Ops_step (R_move rfl) rfl rfl ?_)))
   refine Ops_split 45 rfl (fun hg24_ => ?_) (fun hg24_ => ?_)
   ·
    replace h := h.1 hg24_
    refine Ops_step (R_move rfl) rfl rfl (Ops_step (R_len Tryd.underlying30 rfl rfl) rfl rfl (Ops_step (R_eql rfl rfl) rfl rfl (Ops_step (R_pick_true rfl rfl) rfl rfl (Ops_step (R_move rfl) rfl rfl ?_))))
    refine Ops_split 50 rfl (fun hg25_ => ?_) (fun hg25_ => ?_)
    ·
     replace h := h.1 hg25_
     refine Ops_step (R_move rfl) rfl rfl (Ops_step (R_eql rfl rfl) rfl rfl (Ops_step (R_pick_true rfl rfl) rfl rfl (Ops_step (R_move rfl) rfl rfl ?_)))
     refine Ops_split 54 rfl (fun hg26_ => ?_) (fun hg26_ => ?_)
     ·
      replace h := h.1 hg26_
      refine Ops_step (R_fieldAddr fo32_2 rfl) rfl rfl ?_
      refine Ops_step (R_loadB (v := vi r12_0.Ack_) ag3 rfl ht13_.blk rfl) rfl rfl ?_
      refine Ops_step (R_eql rfl rfl) rfl rfl (Ops_step (R_pick_true rfl rfl) rfl rfl (Ops_step (R_move rfl) rfl rfl ?_))
      refine Ops_split 59 rfl (fun hg27_ => ?_) (fun hg27_ => ?_)
      ·
       replace h := h.1 hg27_
       refine Ops_step (R_move rfl) rfl rfl (Ops_step (R_eql rfl rfl) rfl rfl (Ops_step (R_pick_true rfl rfl) rfl rfl (Ops_step (R_move rfl) rfl rfl ?_)))
       refine Ops_split 63 rfl (fun hg28_ => ?_) (fun hg28_ => ?_)
       ·
        replace h := h.1 hg28_
        refine Ops_step (R_move rfl) rfl rfl (Ops_step (R_len Tryd.underlying30 rfl rfl) rfl rfl (Ops_step (R_eql rfl rfl) rfl rfl (Ops_step (R_pick_true rfl rfl) rfl rfl (Ops_step (R_assign rfl) rfl rfl ?_))))
        refine Ops_nil ?_
        refine then_n (k21 _ _ ?_)
        clear k21 K21
        refine W_keepB [0] fun B_ b_ => ?_
        simp only [e_, Nat.reduceAdd, Nat.reduceBEq] at b_
        subst b_
        refine W_ret ?_
        refine ⟨_, ⟨_, _, rfl, rfl, rfl⟩, ?_⟩
        exact ⟨(decide ((r7_0.length : Int) = 64)), _, _, rfl, hI, h⟩
       ·
        replace h := h.2 hg28_
        refine Ops_pass rfl rfl (Ops_pass rfl rfl (Ops_pass rfl rfl (Ops_step (R_pick_false rfl rfl) rfl rfl (Ops_step (R_assign rfl) rfl rfl ?_))))
        refine Ops_nil ?_
        refine then_n (k21 _ _ ?_)
        clear k21 K21
        refine W_keepB [0] fun B_ b_ => ?_
        simp only [e_, Nat.reduceAdd, Nat.reduceBEq] at b_
        subst b_
        refine W_ret ?_
        refine ⟨_, ⟨_, _, rfl, rfl, rfl⟩, ?_⟩
        exact ⟨false, _, _, rfl, hI, h⟩
      ·
       replace h := h.2 hg27_
       refine Ops_pass rfl rfl (Ops_pass rfl rfl (Ops_step (R_pick_false rfl rfl) rfl rfl (Ops_step (R_move rfl) rfl rfl (Ops_pass rfl rfl ?_))))
       refine Ops_pass rfl rfl (Ops_pass rfl rfl (Ops_step (R_pick_false rfl rfl) rfl rfl (Ops_step (R_assign rfl) rfl rfl ?_)))
       refine Ops_nil ?_
       refine then_n (k21 _ _ ?_)
       clear k21 K21
       refine W_keepB [0] fun B_ b_ => ?_
       simp only [e_, Nat.reduceAdd, Nat.reduceBEq] at b_
       subst b_
       refine W_ret ?_
       refine ⟨_, ⟨_, _, rfl, rfl, rfl⟩, ?_⟩
       exact ⟨false, _, _, rfl, hI, h⟩
     ·
      replace h := h.2 hg26_
      refine Ops_pass rfl rfl (Ops_pass rfl rfl (Ops_pass rfl rfl (Ops_step (R_pick_false rfl rfl) rfl rfl (Ops_step (R_move rfl) rfl rfl ?_))))
      refine Ops_pass rfl rfl (Ops_pass rfl rfl (Ops_step (R_pick_false rfl rfl) rfl rfl (Ops_step (R_move rfl) rfl rfl (Ops_pass rfl rfl ?_))))
      refine Ops_pass rfl rfl (Ops_pass rfl rfl (Ops_step (R_pick_false rfl rfl) rfl rfl (Ops_step (R_assign rfl) rfl rfl ?_)))
      refine Ops_nil ?_
      refine then_n (k21 _ _ ?_)
      clear k21 K21
      refine W_keepB [0] fun B_ b_ => ?_
      simp only [e_, Nat.reduceAdd, Nat.reduceBEq] at b_
      subst b_
      refine W_ret ?_
      refine ⟨_, ⟨_, _, rfl, rfl, rfl⟩, ?_⟩
      exact ⟨false, _, _, rfl, hI, h⟩
    ·
     replace h := h.2 hg25_
     refine Ops_pass rfl rfl (Ops_pass rfl rfl (Ops_step (R_pick_false rfl rfl) rfl rfl (Ops_step (R_move rfl) rfl rfl (Ops_pass rfl rfl ?_))))
     refine Ops_pass rfl rfl (Ops_pass rfl rfl (Ops_step (R_pick_false rfl rfl) rfl rfl (Ops_step (R_move rfl) rfl rfl (Ops_pass rfl rfl ?_))))
     refine Ops_pass rfl rfl (Ops_step (R_pick_false rfl rfl) rfl rfl (Ops_step (R_move rfl) rfl rfl (Ops_pass rfl rfl (Ops_pass rfl rfl ?_))))
     refine Ops_pass rfl rfl (Ops_step (R_pick_false rfl rfl) rfl rfl (Ops_step (R_assign rfl) rfl rfl ?_))
     refine Ops_nil ?_
     refine then_n (k21 _ _ ?_)
     clear k21 K21
     refine W_keepB [0] fun B_ b_ => ?_
     simp only [e_, Nat.reduceAdd, Nat.reduceBEq] at b_
     subst b_
     refine W_ret ?_
     refine ⟨_, ⟨_, _, rfl, rfl, rfl⟩, ?_⟩
     exact ⟨false, _, _, rfl, hI, h⟩
   ·
    replace h := h.2 hg24_
    refine Ops_pass rfl rfl (Ops_pass rfl rfl (Ops_pass rfl rfl (Ops_step (R_pick_false rfl rfl) rfl rfl (Ops_step (R_move rfl) rfl rfl ?_))))
    refine Ops_pass rfl rfl (Ops_pass rfl rfl (Ops_step (R_pick_false rfl rfl) rfl rfl (Ops_step (R_move rfl) rfl rfl (Ops_pass rfl rfl ?_))))
    refine Ops_pass rfl rfl (Ops_pass rfl rfl (Ops_step (R_pick_false rfl rfl) rfl rfl (Ops_step (R_move rfl) rfl rfl (Ops_pass rfl rfl ?_))))
    refine Ops_pass rfl rfl (Ops_step (R_pick_false rfl rfl) rfl rfl (Ops_step (R_move rfl) rfl rfl (Ops_pass rfl rfl (Ops_pass rfl rfl ?_))))
    refine Ops_pass rfl rfl (Ops_step (R_pick_false rfl rfl) rfl rfl (Ops_step (R_assign rfl) rfl rfl ?_))
    refine Ops_nil ?_
    refine then_n (k21 _ _ ?_)
    clear k21 K21
    refine W_keepB [0] fun B_ b_ => ?_
    simp only [e_, Nat.reduceAdd, Nat.reduceBEq] at b_
    subst b_
    refine W_ret ?_
    refine ⟨_, ⟨_, _, rfl, rfl, rfl⟩, ?_⟩
    exact ⟨false, _, _, rfl, hI, h⟩
  ·
   replace h := h.2 hg23_
   refine Ops_pass rfl rfl (Ops_pass rfl rfl (Ops_step (R_pick_false rfl rfl) rfl rfl (Ops_step (R_move rfl) rfl rfl (Ops_pass rfl rfl ?_))))
   refine Ops_pass rfl rfl (Ops_pass rfl rfl (Ops_step (R_pick_false rfl rfl) rfl rfl (Ops_step (R_move rfl) rfl rfl (Ops_pass rfl rfl ?_))))
   refine Ops_pass rfl rfl (Ops_step (R_pick_false rfl rfl) rfl rfl (Ops_step (R_move rfl) rfl rfl (Ops_pass rfl rfl (Ops_pass rfl rfl ?_))))
   refine Ops_pass rfl rfl (Ops_step (R_pick_false rfl rfl) rfl rfl (Ops_step (R_move rfl) rfl rfl (Ops_pass rfl rfl (Ops_pass rfl rfl ?_))))
   refine Ops_step (R_pick_false rfl rfl) rfl rfl (Ops_step (R_move rfl) rfl rfl (Ops_pass rfl rfl (Ops_pass rfl rfl (Ops_pass rfl rfl ?_))))
   refine Ops_step (R_pick_false rfl rfl) rfl rfl (Ops_step (R_assign rfl) rfl rfl ?_)
   refine Ops_nil ?_
   refine then_n (k21 _ _ ?_)
   clear k21 K21
   refine W_keepB [0] fun B_ b_ => ?_
   simp only [e_, Nat.reduceAdd, Nat.reduceBEq] at b_
   subst b_
   refine W_ret ?_
   refine ⟨_, ⟨_, _, rfl, rfl, rfl⟩, ?_⟩
   exact ⟨false, _, _, rfl, hI, h⟩
 ·
  replace h := h.2 hg22_
  refine Ops_pass rfl rfl (Ops_pass rfl rfl (Ops_pass rfl rfl (Ops_step (R_pick_false rfl rfl) rfl rfl (Ops_step (R_move rfl) rfl rfl ?_))))
  refine Ops_pass rfl rfl (Ops_pass rfl rfl (Ops_step (R_pick_false rfl rfl) rfl rfl (Ops_step (R_move rfl) rfl rfl (Ops_pass rfl rfl ?_))))
  refine Ops_pass rfl rfl (Ops_pass rfl rfl (Ops_step (R_pick_false rfl rfl) rfl rfl (Ops_step (R_move rfl) rfl rfl (Ops_pass rfl rfl ?_))))
  refine Ops_pass rfl rfl (Ops_step (R_pick_false rfl rfl) rfl rfl (Ops_step (R_move rfl) rfl rfl (Ops_pass rfl rfl (Ops_pass rfl rfl ?_))))
  refine Ops_pass rfl rfl (Ops_step (R_pick_false rfl rfl) rfl rfl (Ops_step (R_move rfl) rfl rfl (Ops_pass rfl rfl (Ops_pass rfl rfl ?_))))
  refine Ops_step (R_pick_false rfl rfl) rfl rfl (Ops_step (R_move rfl) rfl rfl (Ops_pass rfl rfl (Ops_pass rfl rfl (Ops_pass rfl rfl ?_))))
  refine Ops_step (R_pick_false rfl rfl) rfl rfl (Ops_step (R_assign rfl) rfl rfl ?_)
  refine Ops_nil ?_
  refine then_n (k21 _ _ ?_)
  clear k21 K21
  refine W_keepB [0] fun B_ b_ => ?_
  simp only [e_, Nat.reduceAdd, Nat.reduceBEq] at b_
  subst b_
  refine W_ret ?_
  refine ⟨_, ⟨_, _, rfl, rfl, rfl⟩, ?_⟩
  exact ⟨false, _, _, rfl, hI, h⟩

end Go.Proofs.YtbjmngacjdcddaaDoor

