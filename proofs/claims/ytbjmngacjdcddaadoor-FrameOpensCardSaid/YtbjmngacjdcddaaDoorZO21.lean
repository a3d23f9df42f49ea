/- What is shown of the program on the way to the law. -/
import Derived.Test.YtbjmngacjdcddaaDoorZO2
import Derived.Test.YtbjmngacjdcddaaDoorZO20
import Derived.Test.YtbjmngacjdcddaaDoorProg
set_option linter.unusedVariables false
set_option linter.unusedSimpArgs false
set_option maxHeartbeats 4000000
namespace Go.Proofs.YtbjmngacjdcddaaDoor
open Go Go.Sx Go.Lx
namespace TFmOpens
theorem hm : Tryd.prog.follows .mixedOrders = true := by kernel_rfl
theorem ag32 : aggB Tryd.prog 32 = some true := by kernel_rfl
theorem bd13 : bodied Tryd.prog 13 = true := by kernel_rfl
theorem bd18 : bodied Tryd.prog 18 = true := by kernel_rfl
theorem bd19 : bodied Tryd.prog 19 = true := by kernel_rfl
theorem bd20 : bodied Tryd.prog 20 = true := by kernel_rfl
theorem bd21 : bodied Tryd.prog 21 = true := by kernel_rfl
theorem bd22 : bodied Tryd.prog 22 = true := by kernel_rfl
theorem sz32 : sz Tryd.prog 32 = some 4 := by kernel_rfl
theorem zr32 : zr Tryd.prog 32 = some ([.int .i64 0] ++ [.int .i64 0] ++ [.int .i64 0] ++ [.slice none 0 0]) := by kernel_rfl
end TFmOpens
open TFmOpens
theorem sealskinlaw13_FrameOpens_ok {G : Gh} {w : World} (hS : St G w) (hg : GL G) {A0 : Option Addr} {c0 : Nat} {x0 : List UInt8} (hc0 : x0.length ≤ c0) (hs0 : Sl G A0 x0) {x1 : Bool} {A2 : Option Addr} {c2 : Nat} {x2 : List UInt8} (hc2 : x2.length ≤ c2) (hs2 : Sl G A2 x2) {Q : Bool → Prop} (h : sealskinlaw13_FrameOpens x0 x1 x2 Q) : Calls Tryd.prog 4 #[.slice A0 x0.length c0, .bool x1, .slice A2 x2.length c2] w fun e w2 => ∃ (r0 : Bool) (L H : Gh), e = .returned (.bool r0) ∧ Inv [] G w L H w2 ∧ Q r0 := by
 unfold sealskinlaw13_FrameOpens at h
 have hI := Inv.start (M := []) hS
 refine calls_W 69 Tryd.func4 rfl Tryd.ntmps4 rfl [.tmp 6] rfl ?_
 refine W_seq_k fun K1 k1 => ?_
 refine W_region [6] rfl (Ops_step (R_assign rfl) rfl rfl ?_)
 refine Ops_nil ?_
 refine then_n (k1 _ _ ?_)
 clear k1 K1
 refine W_seq_k fun K2 k2 => ?_
 refine ex_ h fun J3_ hr3_ h => ?_
 refine W_seq_join [0, 1, 2] [22] (fun vals_ w2 => ∃ (x22_3 : Bool) (L H : Gh), vals_ = [.bool x22_3] ∧ J3_ x22_3 ∧ Inv [] G w L H w2 ∧ Le Gh.no L ∧ Le G H ∧ True) (fun B_ b_ => ?_) (fun B_ b_ => ?_)
 ·
  simp only [e_, Nat.reduceAdd, Nat.reduceBEq] at b_
  subst b_
  clear hr3_
  have hll3_ := Le.refl Gh.no
  have hhh3_ := Le.refl G
  refine W_region [15, 16, 17, 18, 19, 20, 21, 22] rfl (Ops_step (R_move rfl) rfl rfl (Ops_step (R_len Tryd.underlying30 rfl rfl) rfl rfl (Ops_step (R_gtr rfl rfl) rfl rfl (Ops_step (R_move rfl) rfl rfl ?_))))
  refine Ops_split 18 rfl (fun hg4_ => ?_) (fun hg4_ => ?_)
  ·
   replace h := h.1 hg4_
   refine Ops_pass rfl rfl (Ops_pass rfl rfl (Ops_pass rfl rfl (Ops_step (R_pick_true rfl rfl) rfl rfl ?_)))
   refine Ops_nil ?_
   refine then_n ?_
   exact ⟨_, rfl, ⟨true, _, _, rfl, h, hI, hll3_, hhh3_, trivial⟩, ⟨rfl, rfl, rfl, trivial⟩⟩
  ·
   replace h := h.2 hg4_
   refine Ops_step (R_move rfl) rfl rfl (Ops_step (R_len Tryd.underlying30 rfl rfl) rfl rfl (Ops_step (R_gtr rfl rfl) rfl rfl (Ops_step (R_pick_false rfl rfl) rfl rfl ?_)))
   refine Ops_nil ?_
   refine then_n ?_
   exact ⟨_, rfl, ⟨(decide ((x2.length : Int) > 16384)), _, _, rfl, h, hI, hll3_, hhh3_, trivial⟩, ⟨rfl, rfl, rfl, trivial⟩⟩
 ·
  simp only [e_, Nat.reduceAdd, Nat.reduceBEq] at b_
  subst b_
  clear h
  rintro _ w3_ ⟨x22_3, L3_, H3_, rfl, hJ3_, hI3_, hll3_, hhh3_, -⟩
  replace hI := hI3_
  clear hI3_
  have h := hr3_ x22_3 hJ3_
  clear hr3_ hJ3_
  replace hs0 := hs0.up hhh3_
  replace hs2 := hs2.up hhh3_
  refine W_cond rfl (fun hc5_ => ?_) (fun hc5_ => ?_)
  ·
   replace h := h.1 hc5_
   refine W_seq_k fun K6 k6 => ?_
   refine W_region [23, 6] rfl ?_
   refine Ops_call (C_func bd13 rfl) rfl rfl ?_
   refine (sealskinlaw13_awake_ok  hI.st (hg.up hI.le)  h).mono ?_
   rintro _ w7_ ⟨r7_0, L7_, H7_, rfl, hI7_, h⟩
   refine Exists.elim (hI.call hI7_ (by simp)) fun L70_ h7_ => ?_
   have hz7_ := hI.size
   replace hI := h7_.1
   have u7_ := h7_.2.1
   have hl7_ := h7_.2.2
   clear h7_
   clear hI7_ u7_ hl7_
   refine ⟨_, rfl, ?_⟩
   refine Ops_step (R_assign rfl) rfl rfl ?_
   refine Ops_nil ?_
   refine then_n (k6 _ _ ?_)
   clear k6 K6
   refine W_ret ?_
   refine then_ret ?_
   clear k2 K2
   refine ⟨_, ⟨_, _, rfl, rfl, rfl⟩, ?_⟩
   exact ⟨r7_0, _, _, rfl, hI, h⟩
  ·
   replace h := h.2 hc5_
   refine W_skip ?_
   refine then_n (k2 _ _ ?_)
   clear k2 K2
   refine W_seq_k fun K8 k8 => ?_
   refine W_region [25, 26, 24, 27, 28, 7, none, 8] rfl (Ops_step (R_move rfl) rfl rfl ?_)
   refine Ops_call (C_func bd18 rfl) rfl rfl ?_
   refine (frame_Peek_ok (x0 := x2) hI.st (hg.up hI.le) hc2 hs2 h).mono ?_
   rintro _ w9_ ⟨l9_0, r9_0, r9_1, L9_, H9_, rfl, hI9_, hr9_0, h⟩
   refine Exists.elim (hI.call hI9_ (by simp)) fun L90_ h9_ => ?_
   have hz9_ := hI.size
   replace hI := h9_.1
   have u9_ := h9_.2.1
   have hl9_ := h9_.2.2
   clear h9_
   replace hs0 := hs0.up u9_.hh
   replace hs2 := hs2.up u9_.hh
   replace hr9_0 := Rp.mono hl9_ hr9_0
   obtain ⟨A9_0_1, c9_0_1, rfl, ⟨hc9_0_1, hs9_0_1⟩⟩ := hr9_0
   clear hI9_ u9_ hl9_
   refine ⟨_, rfl, ?_⟩
   refine Ops_step (R_move rfl) rfl rfl ?_
   refine Ops_step (R_extract (v := .agg #[vi r9_0.Conn_, vi r9_0.Seq_, vi r9_0.Ack_, .slice A9_0_1 r9_0.Body_.length c9_0_1]) rfl rfl) rfl rfl ?_
   refine Ops_step (R_extract (v := vi r9_1) rfl rfl) rfl rfl ?_
   have hI0_ := hI
   refine Ops_to (R_alloc zr32) rfl rfl ?_
   rintro _ w10_ ⟨b10_, rfl, hb10_, hB10_, hF10_⟩
   replace hI := hI.fr0 hF10_
   have ht10_ : Tok H9_ _ b10_ 32 ([vi 0, vi 0, vi 0, .slice none 0 0]) := ⟨hB10_.to rfl, Out.ge hI0_.st (Nat.le_of_eq hb10_.symm)⟩
   have hge_b10_ : w.heap.size ≤ b10_ := hb10_ ▸ hI0_.size
   clear hB10_ hb10_ hI0_ hF10_
   refine Ops_to0 (R_storeN sz32 rfl rfl rfl ht10_.blk (Nat.le_of_ble_eq_true rfl) rfl) rfl ?_
   rintro _ w11_ ⟨hB11_, hF11_⟩
   replace hI := hI.tok hF11_ (out1 ht10_.out) (new1 hge_b10_)
   replace ht10_ : Tok H9_ _ b10_ 32 ([vi r9_0.Conn_, vi r9_0.Seq_, vi r9_0.Ack_, .slice A9_0_1 r9_0.Body_.length c9_0_1]) := ⟨hB11_, ht10_.out⟩
   clear hF11_ hB11_
   refine Ops_step (R_assign rfl) rfl rfl ?_
   refine Ops_nil ?_
   refine then_n (k8 _ _ ?_)
   clear k8 K8
   refine W_keepB [0, 1, 2, 7, 8] fun B_ b_ => ?_
   simp only [e_, Nat.reduceAdd, Nat.reduceBEq] at b_
   subst b_
   refine W_seq_k fun K13 k13 => ?_
   refine W_region [30, 31, 29, 32, 33, 9, none, 10] rfl (Ops_step (R_move rfl) rfl rfl ?_)
   refine Ops_call (C_func bd19 rfl) rfl rfl ?_
   refine (sealskinref13_Peek_ok (x0 := x2) hI.st (hg.up hI.le) hc2 hs2 h).mono ?_
   rintro _ w14_ ⟨l14_0, r14_0, r14_1, L14_, H14_, rfl, hI14_, hr14_0, h⟩
   refine Exists.elim (hI.call hI14_ (by simp)) fun L140_ h14_ => ?_
   have hz14_ := hI.size
   replace hI := h14_.1
   have u14_ := h14_.2.1
   have hl14_ := h14_.2.2
   clear h14_
   replace hs0 := hs0.up u14_.hh
   replace hs2 := hs2.up u14_.hh
   replace hs9_0_1 := hs9_0_1.up u14_.ll
   replace ht10_ := ht10_.up u14_ (by simp)
   replace hr14_0 := Rp.mono hl14_ hr14_0
   obtain ⟨A14_0_1, c14_0_1, rfl, ⟨hc14_0_1, hs14_0_1⟩⟩ := hr14_0
   clear hI14_ u14_ hl14_
   refine ⟨_, rfl, ?_⟩
   refine Ops_step (R_move rfl) rfl rfl ?_
   refine Ops_step (R_extract (v := .agg #[vi r14_0.Conn_, vi r14_0.Seq_, vi r14_0.Ack_, .slice A14_0_1 r14_0.Body_.length c14_0_1]) rfl rfl) rfl rfl ?_
   refine Ops_step (R_extract (v := vi r14_1) rfl rfl) rfl rfl ?_
   have hlo15_b10_ := ht10_.blk.lt
   have hI0_ := hI
   refine Ops_to (R_alloc zr32) rfl rfl ?_
   rintro _ w15_ ⟨b15_, rfl, hb15_, hB15_, hF15_⟩
   replace hI := hI.fr0 hF15_
   replace ht10_ := ht10_.fr0 hF15_
   have ht15_ : Tok H14_ _ b15_ 32 ([vi 0, vi 0, vi 0, .slice none 0 0]) := ⟨hB15_.to rfl, Out.ge hI0_.st (Nat.le_of_eq hb15_.symm)⟩
   have hge_b15_ : w.heap.size ≤ b15_ := hb15_ ▸ hI0_.size
   have hne15_b10_ : b10_ ≠ b15_ := fun e_ => absurd hlo15_b10_ (by omega)
   clear hB15_ hb15_ hI0_ hF15_
   refine Ops_to0 (R_storeN sz32 rfl rfl rfl ht15_.blk (Nat.le_of_ble_eq_true rfl) rfl) rfl ?_
   rintro _ w16_ ⟨hB16_, hF16_⟩
   replace hI := hI.tok hF16_ (out1 ht15_.out) (new1 hge_b15_)
   replace ht10_ := ht10_.fr hF16_ (ne1 hne15_b10_)
   replace ht15_ : Tok H14_ _ b15_ 32 ([vi r14_0.Conn_, vi r14_0.Seq_, vi r14_0.Ack_, .slice A14_0_1 r14_0.Body_.length c14_0_1]) := ⟨hB16_, ht15_.out⟩
   clear hF16_ hB16_
   refine Ops_step (R_assign rfl) rfl rfl ?_
   refine Ops_nil ?_
   refine then_n (k13 _ _ ?_)
   clear k13 K13
   refine W_seq_k fun K17 k17 => ?_
   refine W_region [35, 36, 37, 38, 34, 39, 40, 11, none, 12] rfl (Ops_step (R_move rfl) rfl rfl (Ops_step (R_move rfl) rfl rfl (Ops_step (R_move rfl) rfl rfl ?_)))
   refine Ops_call (C_func bd20 rfl) rfl rfl ?_
   refine (frame_Unwrap_ok (x0 := x0) (x1 := x1) (x2 := x2) hI.st (hg.up hI.le) hc0 hs0 hc2 hs2 h).mono ?_
   rintro _ w18_ ⟨l18_0, r18_0, r18_1, L18_, H18_, rfl, hI18_, hr18_0, h⟩
   refine Exists.elim (hI.call hI18_ (by simp)) fun L180_ h18_ => ?_
   have hz18_ := hI.size
   replace hI := h18_.1
   have u18_ := h18_.2.1
   have hl18_ := h18_.2.2
   clear h18_
   replace hs0 := hs0.up u18_.hh
   replace hs2 := hs2.up u18_.hh
   replace hs9_0_1 := hs9_0_1.up u18_.ll
   replace ht10_ := ht10_.up u18_ (by simp)
   replace hs14_0_1 := hs14_0_1.up u18_.ll
   replace ht15_ := ht15_.up u18_ (by simp)
   obtain ⟨A18_0_1, c18_0_1, rfl, ⟨hc18_0_1, hs18_0_1⟩⟩ := hr18_0
   clear hI18_ u18_ hl18_
   refine ⟨_, rfl, ?_⟩
   refine Ops_step (R_move rfl) rfl rfl ?_
   refine Ops_step (R_extract (v := .agg #[vi r18_0.Conn_, vi r18_0.Seq_, vi r18_0.Ack_, .slice A18_0_1 r18_0.Body_.length c18_0_1]) rfl rfl) rfl rfl ?_
   refine Ops_step (R_extract (v := vi r18_1) rfl rfl) rfl rfl ?_
   have hlo19_b10_ := ht10_.blk.lt
   have hlo19_b15_ := ht15_.blk.lt
   have hI0_ := hI
   refine Ops_to (R_alloc zr32) rfl rfl ?_
   rintro _ w19_ ⟨b19_, rfl, hb19_, hB19_, hF19_⟩
   replace hI := hI.fr0 hF19_
   replace ht10_ := ht10_.fr0 hF19_
   replace ht15_ := ht15_.fr0 hF19_
   have ht19_ : Tok H18_ _ b19_ 32 ([vi 0, vi 0, vi 0, .slice none 0 0]) := ⟨hB19_.to rfl, Out.ge hI0_.st (Nat.le_of_eq hb19_.symm)⟩
   have hge_b19_ : w.heap.size ≤ b19_ := hb19_ ▸ hI0_.size
   have hne19_b10_ : b10_ ≠ b19_ := fun e_ => absurd hlo19_b10_ (by omega)
   have hne19_b15_ : b15_ ≠ b19_ := fun e_ => absurd hlo19_b15_ (by omega)
   clear hB19_ hb19_ hI0_ hF19_
   refine Ops_to0 (R_storeN sz32 rfl rfl rfl ht19_.blk (Nat.le_of_ble_eq_true rfl) rfl) rfl ?_
   rintro _ w20_ ⟨hB20_, hF20_⟩
   replace hI := hI.tok hF20_ (out1 ht19_.out) (new1 hge_b19_)
   replace ht10_ := ht10_.fr hF20_ (ne1 hne19_b10_)
   replace ht15_ := ht15_.fr hF20_ (ne1 hne19_b15_)
   replace ht19_ : Tok H18_ _ b19_ 32 ([vi r18_0.Conn_, vi r18_0.Seq_, vi r18_0.Ack_, .slice A18_0_1 r18_0.Body_.length c18_0_1]) := ⟨hB20_, ht19_.out⟩
   clear hF20_ hB20_
   refine Ops_step (R_assign rfl) rfl rfl ?_
   refine Ops_nil ?_
   refine then_n (k17 _ _ ?_)
   clear k17 K17
   refine W_keepB [0, 1, 2, 7, 8, 9, 10, 11, 12] fun B_ b_ => ?_
   simp only [e_, Nat.reduceAdd, Nat.reduceBEq] at b_
   subst b_
   refine W_seq_k fun K22 k22 => ?_
   refine W_region [42, 43, 44, 45, 41, 46, 47, 13, none, 14] rfl (Ops_step (R_move rfl) rfl rfl (Ops_step (R_move rfl) rfl rfl (Ops_step (R_move rfl) rfl rfl ?_)))
   refine Ops_call (C_func bd21 rfl) rfl rfl ?_
   refine (sealskinref13_Unwrap_ok (x0 := x0) (x1 := x1) (x2 := x2) hI.st (hg.up hI.le) hc0 hs0 hc2 hs2 h).mono ?_
   rintro _ w23_ ⟨l23_0, r23_0, r23_1, L23_, H23_, rfl, hI23_, hr23_0, h⟩
   refine Exists.elim (hI.call hI23_ (by simp)) fun L230_ h23_ => ?_
   have hz23_ := hI.size
   replace hI := h23_.1
   have u23_ := h23_.2.1
   have hl23_ := h23_.2.2
   clear h23_
   replace hs9_0_1 := hs9_0_1.up u23_.ll
   replace ht10_ := ht10_.up u23_ (by simp)
   replace hs14_0_1 := hs14_0_1.up u23_.ll
   replace ht15_ := ht15_.up u23_ (by simp)
   replace hs18_0_1 := hs18_0_1.up u23_.hh
   replace ht19_ := ht19_.up u23_ (by simp)
   replace hr23_0 := Rp.mono hl23_ hr23_0
   obtain ⟨A23_0_1, c23_0_1, rfl, ⟨hc23_0_1, hs23_0_1⟩⟩ := hr23_0
   clear hI23_ u23_ hl23_
   refine ⟨_, rfl, ?_⟩
   refine Ops_step (R_move rfl) rfl rfl ?_
   refine Ops_step (R_extract (v := .agg #[vi r23_0.Conn_, vi r23_0.Seq_, vi r23_0.Ack_, .slice A23_0_1 r23_0.Body_.length c23_0_1]) rfl rfl) rfl rfl ?_
   refine Ops_step (R_extract (v := vi r23_1) rfl rfl) rfl rfl ?_
   have hlo24_b10_ := ht10_.blk.lt
   have hlo24_b15_ := ht15_.blk.lt
   have hlo24_b19_ := ht19_.blk.lt
   have hI0_ := hI
   refine Ops_to (R_alloc zr32) rfl rfl ?_
   rintro _ w24_ ⟨b24_, rfl, hb24_, hB24_, hF24_⟩
   replace hI := hI.fr0 hF24_
   replace ht10_ := ht10_.fr0 hF24_
   replace ht15_ := ht15_.fr0 hF24_
   replace ht19_ := ht19_.fr0 hF24_
   have ht24_ : Tok H23_ _ b24_ 32 ([vi 0, vi 0, vi 0, .slice none 0 0]) := ⟨hB24_.to rfl, Out.ge hI0_.st (Nat.le_of_eq hb24_.symm)⟩
   have hge_b24_ : w.heap.size ≤ b24_ := hb24_ ▸ hI0_.size
   have hne24_b10_ : b10_ ≠ b24_ := fun e_ => absurd hlo24_b10_ (by omega)
   have hne24_b15_ : b15_ ≠ b24_ := fun e_ => absurd hlo24_b15_ (by omega)
   have hne24_b19_ : b19_ ≠ b24_ := fun e_ => absurd hlo24_b19_ (by omega)
   clear hB24_ hb24_ hI0_ hF24_
   refine Ops_to0 (R_storeN sz32 rfl rfl rfl ht24_.blk (Nat.le_of_ble_eq_true rfl) rfl) rfl ?_
   rintro _ w25_ ⟨hB25_, hF25_⟩
   replace hI := hI.tok hF25_ (out1 ht24_.out) (new1 hge_b24_)
   replace ht10_ := ht10_.fr hF25_ (ne1 hne24_b10_)
   replace ht15_ := ht15_.fr hF25_ (ne1 hne24_b15_)
   replace ht19_ := ht19_.fr hF25_ (ne1 hne24_b19_)
   replace ht24_ : Tok H23_ _ b24_ 32 ([vi r23_0.Conn_, vi r23_0.Seq_, vi r23_0.Ack_, .slice A23_0_1 r23_0.Body_.length c23_0_1]) := ⟨hB25_, ht24_.out⟩
   clear hF25_ hB25_
   refine Ops_step (R_assign rfl) rfl rfl ?_
   refine Ops_nil ?_
   refine then_n (k22 _ _ ?_)
   clear k22 K22
   refine W_keepB [7, 8, 9, 10, 11, 12, 13, 14] fun B_ b_ => ?_
   simp only [e_, Nat.reduceAdd, Nat.reduceBEq] at b_
   subst b_
   refine W_seq_k fun K27 k27 => ?_
   refine W_region [48, 49, 50, 51, 52, 53, 54, 55, 56, 57, 58, 59, 60, 61, 62, 63, 64, 65, 66, 67, 68, 6] rfl (Ops_step (R_loadN ag32 sz32 rfl ht10_.blk (Nat.le_of_ble_eq_true rfl)) rfl rfl (Ops_step (R_loadN ag32 sz32 rfl ht15_.blk (Nat.le_of_ble_eq_true rfl)) rfl rfl ?_))
   refine Ops_call (C_func bd22 rfl) rfl rfl ?_
   refine (sealskinref13_SameFrame_ok (x0 := r9_0) (x1 := r14_0) hI.st (hg.up hI.le) ⟨A9_0_1, c9_0_1, rfl, ⟨hc9_0_1, (hs9_0_1.up hI.sub)⟩⟩ ⟨A14_0_1, c14_0_1, rfl, ⟨hc14_0_1, (hs14_0_1.up hI.sub)⟩⟩ h).mono ?_
   rintro _ w28_ ⟨r28_0, L28_, H28_, rfl, hI28_, h⟩
   refine Exists.elim (hI.call hI28_ (by simp)) fun L280_ h28_ => ?_
   have hz28_ := hI.size
   replace hI := h28_.1
   have u28_ := h28_.2.1
   have hl28_ := h28_.2.2
   clear h28_
   replace hs18_0_1 := hs18_0_1.up u28_.hh
   replace ht19_ := ht19_.up u28_ (by simp)
   replace hs23_0_1 := hs23_0_1.up u28_.ll
   replace ht24_ := ht24_.up u28_ (by simp)
   clear hI28_ u28_ hl28_
   refine ⟨_, rfl, ?_⟩
   refine Ops_step (R_move rfl) rfl rfl ?_
   refine Ops_splitB 51 rfl (fun hg29_ => ?_) (fun hg29_ => ?_)
   ·
    replace h := h.1 hg29_
    refine Ops_step (R_move rfl) rfl rfl (Ops_step (R_move rfl) rfl rfl (Ops_step (R_eql rfl rfl) rfl rfl (Ops_step (R_pick_true rfl rfl) rfl rfl (Ops_step (R_move rfl) rfl rfl ?_))))
    refine Ops_split 56 rfl (fun hg30_ => ?_) (fun hg30_ => ?_)
    ·
     replace h := h.1 hg30_
     refine Ops_step (R_loadN ag32 sz32 rfl ht19_.blk (Nat.le_of_ble_eq_true rfl)) rfl rfl (Ops_step (R_loadN ag32 sz32 rfl ht24_.blk (Nat.le_of_ble_eq_true rfl)) rfl rfl ?_)
     refine Ops_call (C_func bd22 rfl) rfl rfl ?_
     refine (sealskinref13_SameFrame_ok (x0 := r18_0) (x1 := r23_0) hI.st (hg.up hI.le) ⟨A18_0_1, c18_0_1, rfl, ⟨hc18_0_1, hs18_0_1⟩⟩ ⟨A23_0_1, c23_0_1, rfl, ⟨hc23_0_1, (hs23_0_1.up hI.sub)⟩⟩ h).mono ?_
     rintro _ w31_ ⟨r31_0, L31_, H31_, rfl, hI31_, h⟩
     refine Exists.elim (hI.call hI31_ (by simp)) fun L310_ h31_ => ?_
     have hz31_ := hI.size
     replace hI := h31_.1
     have u31_ := h31_.2.1
     have hl31_ := h31_.2.2
     clear h31_
     clear hI31_ u31_ hl31_
     refine ⟨_, rfl, ?_⟩
     refine Ops_step (R_pick_true rfl rfl) rfl rfl (Ops_step (R_move rfl) rfl rfl ?_)
     refine Ops_splitB 61 rfl (fun hg32_ => ?_) (fun hg32_ => ?_)
     ·
      replace h := h.1 hg32_
      refine Ops_step (R_move rfl) rfl rfl (Ops_step (R_move rfl) rfl rfl (Ops_step (R_eql rfl rfl) rfl rfl (Ops_step (R_pick_true rfl rfl) rfl rfl (Ops_step (R_move rfl) rfl rfl ?_))))
      refine Ops_split 66 rfl (fun hg33_ => ?_) (fun hg33_ => ?_)
      ·
       replace h := h.1 hg33_
       refine Ops_call (C_func bd13 rfl) rfl rfl ?_
       refine (sealskinlaw13_awake_ok  hI.st (hg.up hI.le)  h).mono ?_
       rintro _ w34_ ⟨r34_0, L34_, H34_, rfl, hI34_, h⟩
       refine Exists.elim (hI.call hI34_ (by simp)) fun L340_ h34_ => ?_
       have hz34_ := hI.size
       replace hI := h34_.1
       have u34_ := h34_.2.1
       have hl34_ := h34_.2.2
       clear h34_
       clear hI34_ u34_ hl34_
       refine ⟨_, rfl, ?_⟩
       refine Ops_step (R_pick_true rfl rfl) rfl rfl (Ops_step (R_assign rfl) rfl rfl ?_)
       refine Ops_nil ?_
       refine then_n (k27 _ _ ?_)
       clear k27 K27
       refine W_keepB [6] fun B_ b_ => ?_
       simp only [e_, Nat.reduceAdd, Nat.reduceBEq] at b_
       subst b_
       refine W_ret ?_
       refine ⟨_, ⟨_, _, rfl, rfl, rfl⟩, ?_⟩
       exact ⟨r34_0, _, _, rfl, hI, h⟩
      ·
       replace h := h.2 hg33_
       refine Ops_pass rfl rfl (Ops_step (R_pick_false rfl rfl) rfl rfl (Ops_step (R_assign rfl) rfl rfl ?_))
       refine Ops_nil ?_
       refine then_n (k27 _ _ ?_)
       clear k27 K27
       refine W_keepB [6] fun B_ b_ => ?_
       simp only [e_, Nat.reduceAdd, Nat.reduceBEq] at b_
       subst b_
       refine W_ret ?_
       refine ⟨_, ⟨_, _, rfl, rfl, rfl⟩, ?_⟩
       exact ⟨false, _, _, rfl, hI, h⟩
     ·
      replace h := h.2 hg32_
      refine Ops_pass rfl rfl (Ops_pass rfl rfl (Ops_pass rfl rfl (Ops_step (R_pick_false rfl rfl) rfl rfl (Ops_step (R_move rfl) rfl rfl ?_))))
      refine Ops_pass rfl rfl (Ops_step (R_pick_false rfl rfl) rfl rfl (Ops_step (R_assign rfl) rfl rfl ?_))
      refine Ops_nil ?_
      refine then_n (k27 _ _ ?_)
      clear k27 K27
      refine W_keepB [6] fun B_ b_ => ?_
      simp only [e_, Nat.reduceAdd, Nat.reduceBEq] at b_
      subst b_
      refine W_ret ?_
      refine ⟨_, ⟨_, _, rfl, rfl, rfl⟩, ?_⟩
      exact ⟨false, _, _, rfl, hI, h⟩
    ·
     replace h := h.2 hg30_
     refine Ops_pass rfl rfl (Ops_pass rfl rfl (Ops_pass rfl rfl (Ops_step (R_pick_false rfl rfl) rfl rfl (Ops_step (R_move rfl) rfl rfl ?_))))
     refine Ops_pass rfl rfl (Ops_pass rfl rfl (Ops_pass rfl rfl (Ops_step (R_pick_false rfl rfl) rfl rfl (Ops_step (R_move rfl) rfl rfl ?_))))
     refine Ops_pass rfl rfl (Ops_step (R_pick_false rfl rfl) rfl rfl (Ops_step (R_assign rfl) rfl rfl ?_))
     refine Ops_nil ?_
     refine then_n (k27 _ _ ?_)
     clear k27 K27
     refine W_keepB [6] fun B_ b_ => ?_
     simp only [e_, Nat.reduceAdd, Nat.reduceBEq] at b_
     subst b_
     refine W_ret ?_
     refine ⟨_, ⟨_, _, rfl, rfl, rfl⟩, ?_⟩
     exact ⟨false, _, _, rfl, hI, h⟩
   ·
    replace h := h.2 hg29_
    refine Ops_pass rfl rfl (Ops_pass rfl rfl (Ops_pass rfl rfl (Ops_step (R_pick_false rfl rfl) rfl rfl (Ops_step (R_move rfl) rfl rfl ?_))))
    refine Ops_pass rfl rfl (Ops_pass rfl rfl (Ops_pass rfl rfl (Ops_step (R_pick_false rfl rfl) rfl rfl (Ops_step (R_move rfl) rfl rfl ?_))))
    refine Ops_pass rfl rfl (Ops_pass rfl rfl (Ops_pass rfl rfl (Ops_step (R_pick_false rfl rfl) rfl rfl (Ops_step (R_move rfl) rfl rfl ?_))))
    refine Ops_pass rfl rfl (Ops_step (R_pick_false rfl rfl) rfl rfl (Ops_step (R_assign rfl) rfl rfl ?_))
    refine Ops_nil ?_
    refine then_n (k27 _ _ ?_)
    clear k27 K27
    refine W_keepB [6] fun B_ b_ => ?_
    simp only [e_, Nat.reduceAdd, Nat.reduceBEq] at b_
    subst b_
    refine W_ret ?_
    refine ⟨_, ⟨_, _, rfl, rfl, rfl⟩, ?_⟩
    exact ⟨false, _, _, rfl, hI, h⟩

end Go.Proofs.YtbjmngacjdcddaaDoor

