/- What is shown of the program on the way to the law FrameTrip. -/
import Derived.Test.YtbjmngacjdcddaaDoorZt2
import Derived.Test.YtbjmngacjdcddaaDoorZt20
import Derived.Test.YtbjmngacjdcddaaDoorProg
set_option linter.unusedVariables false
set_option linter.unusedSimpArgs false
namespace Go.Proofs.YtbjmngacjdcddaaDoor
open Go Go.Sx Go.Lx
namespace TFmTrip
theorem hm : Tryd.prog.follows .mixedOrders = true := by kernel_rfl
theorem ag3 : aggB Tryd.prog 3 = some false := by kernel_rfl
theorem ag30 : aggB Tryd.prog 30 = some false := by kernel_rfl
theorem ag32 : aggB Tryd.prog 32 = some true := by kernel_rfl
theorem bd13 : bodied Tryd.prog 13 = true := by kernel_rfl
theorem bd18 : bodied Tryd.prog 18 = true := by kernel_rfl
theorem bd20 : bodied Tryd.prog 20 = true := by kernel_rfl
theorem bd22 : bodied Tryd.prog 22 = true := by kernel_rfl
theorem bd26 : bodied Tryd.prog 26 = true := by kernel_rfl
theorem bd30 : bodied Tryd.prog 30 = true := by kernel_rfl
theorem fo32_0 : offB Tryd.prog 32 0 = some 0 := by kernel_rfl
theorem fo32_1 : offB Tryd.prog 32 1 = some 1 := by kernel_rfl
theorem fo32_2 : offB Tryd.prog 32 2 = some 2 := by kernel_rfl
theorem fo32_3 : offB Tryd.prog 32 3 = some 3 := by kernel_rfl
theorem pl32 : partPl Tryd.prog 32 = some [(0, 1), (1, 1), (2, 1), (3, 1)] := by kernel_rfl
theorem sz32 : sz Tryd.prog 32 = some 4 := by kernel_rfl
theorem zr32 : zr Tryd.prog 32 = some ([.int .i64 0] ++ [.int .i64 0] ++ [.int .i64 0] ++ [.slice none 0 0]) := by kernel_rfl
end TFmTrip
set_option maxHeartbeats 4000000 in
theorem sealskinlaw13_FrameTrip_ok {G : Gh} {w : World} (hS : St G w) (hg : GL G) {A0 : Option Addr} {c0 : Nat} {x0 : List UInt8} (hc0 : x0.length ≤ c0) (hs0 : Sl G A0 x0) {x1 : Bool} {l2 : List Value} {x2 : api_Frame} (hr2 : Rp.cs G x2 l2) {A3 : Option Addr} {c3 : Nat} {x3 : List UInt8} (hc3 : x3.length ≤ c3) (hs3 : Sl G A3 x3) {Q : Bool → Prop} (h : sealskinlaw13_FrameTrip x0 x1 x2 x3 Q) : Calls Tryd.prog 9 #[.slice A0 x0.length c0, .bool x1, .agg l2.toArray, .slice A3 x3.length c3] w fun e w2 => ∃ (r0 : Bool) (L H : Gh), e = .returned (.bool r0) ∧ Inv [] G w L H w2 ∧ Q r0 := by
 unfold sealskinlaw13_FrameTrip at h
 have hI := Inv.start (M := []) hS
 refine calls_W 120 Tryd.func9 rfl Tryd.ntmps9 rfl [.tmp 8] rfl ?_
 obtain ⟨A2_1, c2_1, rfl, ⟨hc2_1, hs2_1⟩⟩ := hr2
 refine W_seq_k fun K1_ hK1_ => ?_
 refine W_region [some 6, some 8] rfl ?_
 have hI0_ := hI
 refine Ops_to (R_box rfl) rfl rfl ?_
 rintro _ w2_ ⟨b2_, rfl, hb2_, hB2_, hF2_⟩
 replace hI := hI.fr0 hF2_
 have ht2_ : Tok G _ b2_ 32 ([vi x2.Conn_, vi x2.Seq_, vi x2.Ack_, .slice A2_1 x2.Body_.length c2_1]) := ⟨hB2_.to rfl, Out.ge hI0_.st (Nat.le_of_eq hb2_.symm)⟩
 have hge_b2_ : w.heap.size ≤ b2_ := hb2_ ▸ hI0_.size
 clear hB2_ hb2_ hI0_ hF2_
 refine Ops_step (R_assign rfl) rfl rfl ?_
 refine Ops_nil ?_
 refine then_n (hK1_ _ _ ?_)
 clear hK1_ K1_
 refine W_seq_k fun K3_ hK3_ => ?_
 refine Exists.elim h fun J4_ h => ?_
 have hr4_ := h.1
 replace h := h.2
 refine W_seq_join [0, 1, 3, 6] [32] (fun vals_ w2 => ∃ (x32_4 : Bool) (L H : Gh), vals_ = [.bool x32_4] ∧ J4_ x32_4 ∧ Inv [] G w L H w2 ∧ Le Gh.no L ∧ Le G H ∧ Tok H w2 b2_ 32 ([vi x2.Conn_, vi x2.Seq_, vi x2.Ack_, .slice A2_1 x2.Body_.length c2_1]) ∧ True) (fun B4 hB4_ => ?_) (fun B4 hB4_ => ?_)
 ·
  simp only [pickE, lookE, putE, zipE, args0, Nat.reduceAdd, za_, ca_, na_, Nat.reduceBEq, ct_, cf_] at hB4_
  subst hB4_
  clear hr4_
  have hll4_ := Le.refl Gh.no
  have hhh4_ := Le.refl G
  refine W_region [some 19, some 20, some 21, some 22, some 23, some 24, some 25, some 26, some 27, some 28, some 29, some 30, some 31, some 32] rfl ?_
  refine Ops_step (R_move rfl) rfl rfl ?_
  refine Ops_step (R_len Tryd.underlying30 rfl rfl) rfl rfl ?_
  refine Ops_step (R_gtr rfl rfl) rfl rfl ?_
  refine Ops_step (R_move rfl) rfl rfl ?_
  refine Ops_split 22 rfl (fun hg5_ => ?_) (fun hg5_ => ?_)
  ·
   replace h := h.1 hg5_
   refine Ops_pass rfl rfl ?_
   refine Ops_pass rfl rfl ?_
   refine Ops_pass rfl rfl ?_
   refine Ops_pass rfl rfl ?_
   refine Ops_step (R_pick_true rfl rfl) rfl rfl ?_
   refine Ops_step (R_move rfl) rfl rfl ?_
   refine Ops_pass rfl rfl ?_
   refine Ops_pass rfl rfl ?_
   refine Ops_pass rfl rfl ?_
   refine Ops_step (R_pick_true rfl rfl) rfl rfl ?_
   refine Ops_nil ?_
   refine then_n ?_
   exact ⟨_, rfl, ⟨true, _, _, rfl, h, hI, hll4_, hhh4_, ht2_, trivial⟩, ⟨rfl, rfl, rfl, rfl, trivial⟩⟩
  ·
   replace h := h.2 hg5_
   refine Ops_step (R_fieldAddr TFmTrip.fo32_3 rfl) rfl rfl ?_
   refine Ops_step (R_loadB (v := .slice A2_1 x2.Body_.length c2_1) TFmTrip.ag30 rfl ht2_.blk rfl) rfl rfl ?_
   refine Ops_step (R_len Tryd.underlying30 rfl rfl) rfl rfl ?_
   refine Ops_step (R_gtr rfl rfl) rfl rfl ?_
   refine Ops_step (R_pick_false rfl rfl) rfl rfl ?_
   refine Ops_step (R_move rfl) rfl rfl ?_
   refine Ops_split 28 rfl (fun hg6_ => ?_) (fun hg6_ => ?_)
   ·
    replace h := h.1 hg6_
    refine Ops_pass rfl rfl ?_
    refine Ops_pass rfl rfl ?_
    refine Ops_pass rfl rfl ?_
    refine Ops_step (R_pick_true rfl rfl) rfl rfl ?_
    refine Ops_nil ?_
    refine then_n ?_
    exact ⟨_, rfl, ⟨true, _, _, rfl, h, hI, hll4_, hhh4_, ht2_, trivial⟩, ⟨rfl, rfl, rfl, rfl, trivial⟩⟩
   ·
    replace h := h.2 hg6_
    refine Ops_step (R_move rfl) rfl rfl ?_
    refine Ops_step (R_len Tryd.underlying30 rfl rfl) rfl rfl ?_
    refine Ops_step (R_gtr rfl rfl) rfl rfl ?_
    refine Ops_step (R_pick_false rfl rfl) rfl rfl ?_
    refine Ops_nil ?_
    refine then_n ?_
    exact ⟨_, rfl, ⟨(decide ((x3.length : Int) > 16384)), _, _, rfl, h, hI, hll4_, hhh4_, ht2_, trivial⟩, ⟨rfl, rfl, rfl, rfl, trivial⟩⟩
 ·
  simp only [pickE, lookE, putE, zipE, args0, Nat.reduceAdd, za_, ca_, na_, Nat.reduceBEq, ct_, cf_] at hB4_
  subst hB4_
  clear h
  clear ht2_
  rintro _ w4_ ⟨x32_4, L4_, H4_, rfl, hJ4_, hI4_, hll4_, hhh4_, ht2_, -⟩
  replace hI := hI4_
  clear hI4_
  have h := hr4_ x32_4 hJ4_
  clear hr4_ hJ4_
  replace hs0 := hs0.up hhh4_
  replace hs3 := hs3.up hhh4_
  replace hs2_1 := hs2_1.up hhh4_
  refine W_cond rfl (fun hc7_ => ?_) (fun hc7_ => ?_)
  ·
   replace h := h.1 hc7_
   refine W_seq_k fun K8_ hK8_ => ?_
   refine W_region [some 33, some 8] rfl ?_
   refine Ops_call (C_func TFmTrip.bd13 rfl) rfl rfl ?_
   refine (sealskinlaw13_awake_ok  hI.st (hg.up hI.le)  h).mono ?_
   rintro _ w9_ ⟨r9_0, L9_, H9_, rfl, hI9_, h⟩
   refine Exists.elim (hI.call hI9_ (by simp)) fun L90_ h9_ => ?_
   have hz9_ := hI.size
   replace hI := h9_.1
   have u9_ := h9_.2.1
   have hl9_ := h9_.2.2
   clear h9_
   clear hI9_ u9_ hl9_
   refine ⟨_, rfl, ?_⟩
   refine Ops_step (R_assign rfl) rfl rfl ?_
   refine Ops_nil ?_
   refine then_n (hK8_ _ _ ?_)
   clear hK8_ K8_
   refine W_keepB [8] fun B10 hB10_ => ?_
   simp only [pickE, lookE, putE, zipE, args0, Nat.reduceAdd, za_, ca_, na_, Nat.reduceBEq, ct_, cf_] at hB10_
   subst hB10_
   refine W_ret ?_
   refine then_ret ?_
   clear hK3_ K3_
   refine ⟨_, ⟨_, _, rfl, rfl, rfl⟩, ?_⟩
   exact ⟨r9_0, _, _, rfl, hI, h⟩
  ·
   replace h := h.2 hc7_
   refine W_skip ?_
   refine then_n (hK3_ _ _ ?_)
   clear hK3_ K3_
   refine Exists.elim h fun J11_ h => ?_
   have hr11_ := h.1
   replace h := h.2
   refine W_seq_join [0, 1, 3] [] (fun vals_ w2 => ∃  (L H : Gh), vals_ = [] ∧ J11_ ∧ Inv [] G w L H w2 ∧ Le L4_ L ∧ Le H4_ H ∧ True) (fun B11 hB11_ => ?_) (fun B11 hB11_ => ?_)
   ·
    simp only [pickE, lookE, putE, zipE, args0, Nat.reduceAdd, za_, ca_, na_, Nat.reduceBEq, ct_, cf_] at hB11_
    subst hB11_
    clear hr11_
    have hll11_ := Le.refl L4_
    have hhh11_ := Le.refl H4_
    refine W_seq_k fun K12_ hK12_ => ?_
    refine W_region [some 35, some 36, some 37, some 38, some 34, some 39, some 40, some 9, some 10] rfl ?_
    refine Ops_step (R_move rfl) rfl rfl ?_
    refine Ops_step (R_move rfl) rfl rfl ?_
    refine Ops_step (R_loadN TFmTrip.ag32 TFmTrip.sz32 rfl ht2_.blk (Nat.le_of_ble_eq_true rfl)) rfl rfl ?_
    refine Ops_call (C_func TFmTrip.bd30 rfl) rfl rfl ?_
    refine (frame_Wrap_ok (x0 := x0) (x1 := x1) (x2 := x2) hI.st (hg.up hI.le) hc0 hs0 ⟨A2_1, c2_1, rfl, ⟨hc2_1, hs2_1⟩⟩ h).mono ?_
    rintro _ w13_ ⟨A13_0, c13_0, r13_0, r13_1, L13_, H13_, rfl, hI13_, hc13_0, hs13_0, h⟩
    refine Exists.elim (hI.call hI13_ (by simp)) fun L130_ h13_ => ?_
    have hz13_ := hI.size
    replace hI := h13_.1
    have u13_ := h13_.2.1
    have hl13_ := h13_.2.2
    clear h13_
    replace hs0 := hs0.up u13_.hh
    replace hs3 := hs3.up u13_.hh
    replace hs2_1 := hs2_1.up u13_.hh
    replace ht2_ := ht2_.up u13_ (by simp)
    replace hll11_ := hll11_.trans u13_.ll
    replace hhh11_ := hhh11_.trans u13_.hh
    replace hs13_0 := hs13_0.up hl13_
    clear hI13_ u13_ hl13_
    refine ⟨_, rfl, ?_⟩
    refine Ops_step (R_move rfl) rfl rfl ?_
    refine Ops_step (R_extract (v := .slice A13_0 r13_0.length c13_0) rfl rfl) rfl rfl ?_
    refine Ops_step (R_extract (v := vi r13_1) rfl rfl) rfl rfl ?_
    refine Ops_step (R_assign rfl) rfl rfl ?_
    refine Ops_step (R_assign rfl) rfl rfl ?_
    refine Ops_nil ?_
    refine then_n (hK12_ _ _ ?_)
    clear hK12_ K12_
    refine W_keepB [0, 1, 3, 6, 9, 10] fun B14 hB14_ => ?_
    simp only [pickE, lookE, putE, zipE, args0, Nat.reduceAdd, za_, ca_, na_, Nat.reduceBEq, ct_, cf_] at hB14_
    subst hB14_
    refine W_seq_k fun K15_ hK15_ => ?_
    refine W_region [some 41, some 42] rfl ?_
    refine Ops_step (R_move rfl) rfl rfl ?_
    refine Ops_step (R_eql rfl rfl) rfl rfl ?_
    refine Ops_nil ?_
    refine then_n (hK15_ _ _ ?_)
    clear hK15_ K15_
    refine W_if rfl (fun hc16_ => ?_) (fun hc16_ => ?_)
    ·
     replace h := h.1 hc16_
     refine W_seq_k fun K17_ hK17_ => ?_
     refine W_region [some 44, some 45, some 46, some 47, some 43, some 48, some 49, some 11, none, some 12] rfl ?_
     refine Ops_step (R_move rfl) rfl rfl ?_
     refine Ops_step (R_move rfl) rfl rfl ?_
     refine Ops_step (R_move rfl) rfl rfl ?_
     refine Ops_call (C_func TFmTrip.bd20 rfl) rfl rfl ?_
     refine (frame_Unwrap_ok (x0 := x0) (x1 := x1) (x2 := r13_0) hI.st (hg.up hI.le) hc0 hs0 hc13_0 (hs13_0.up hI.sub) h).mono ?_
     rintro _ w18_ ⟨l18_0, r18_0, r18_1, L18_, H18_, rfl, hI18_, hr18_0, h⟩
     refine Exists.elim (hI.call hI18_ (by simp)) fun L180_ h18_ => ?_
     have hz18_ := hI.size
     replace hI := h18_.1
     have u18_ := h18_.2.1
     have hl18_ := h18_.2.2
     clear h18_
     replace hs0 := hs0.up u18_.hh
     replace hs3 := hs3.up u18_.hh
     replace hs2_1 := hs2_1.up u18_.hh
     replace ht2_ := ht2_.up u18_ (by simp)
     replace hll11_ := hll11_.trans u18_.ll
     replace hhh11_ := hhh11_.trans u18_.hh
     replace hs13_0 := hs13_0.up u18_.ll
     obtain ⟨A18_0_1, c18_0_1, rfl, ⟨hc18_0_1, hs18_0_1⟩⟩ := hr18_0
     clear hI18_ u18_ hl18_
     refine ⟨_, rfl, ?_⟩
     refine Ops_step (R_move rfl) rfl rfl ?_
     refine Ops_step (R_extract (v := .agg #[vi r18_0.Conn_, vi r18_0.Seq_, vi r18_0.Ack_, .slice A18_0_1 r18_0.Body_.length c18_0_1]) rfl rfl) rfl rfl ?_
     refine Ops_step (R_extract (v := vi r18_1) rfl rfl) rfl rfl ?_
     have hlo19_b2_ := ht2_.blk.lt
     have hI0_ := hI
     refine Ops_to (R_alloc TFmTrip.zr32) rfl rfl ?_
     rintro _ w19_ ⟨b19_, rfl, hb19_, hB19_, hF19_⟩
     replace hI := hI.fr0 hF19_
     replace ht2_ := ht2_.fr0 hF19_
     have ht19_ : Tok H18_ _ b19_ 32 ([vi 0, vi 0, vi 0, .slice none 0 0]) := ⟨hB19_.to rfl, Out.ge hI0_.st (Nat.le_of_eq hb19_.symm)⟩
     have hge_b19_ : w.heap.size ≤ b19_ := hb19_ ▸ hI0_.size
     have hne19_b2_ : b2_ ≠ b19_ := fun e_ => absurd hlo19_b2_ (by omega)
     clear hB19_ hb19_ hI0_ hF19_
     refine Ops_to0 (R_storeN TFmTrip.sz32 rfl rfl rfl ht19_.blk (Nat.le_of_ble_eq_true rfl) rfl) rfl ?_
     rintro _ w20_ ⟨hB20_, hF20_⟩
     replace hI := hI.tok hF20_ (out1 ht19_.out) (new1 hge_b19_)
     replace ht2_ := ht2_.fr hF20_ (ne1 hne19_b2_)
     replace ht19_ : Tok H18_ _ b19_ 32 ([vi r18_0.Conn_, vi r18_0.Seq_, vi r18_0.Ack_, .slice A18_0_1 r18_0.Body_.length c18_0_1]) := ⟨hB20_, ht19_.out⟩
     clear hF20_ hB20_
     refine Ops_step (R_assign rfl) rfl rfl ?_
     refine Ops_nil ?_
     refine then_n (hK17_ _ _ ?_)
     clear hK17_ K17_
     refine W_keepB [0, 1, 3, 6, 9, 11, 12] fun B21 hB21_ => ?_
     simp only [pickE, lookE, putE, zipE, args0, Nat.reduceAdd, za_, ca_, na_, Nat.reduceBEq, ct_, cf_] at hB21_
     subst hB21_
     refine W_seq_k fun K22_ hK22_ => ?_
     refine W_region [some 51, some 52, some 50, some 53, some 54, some 13, none, some 14] rfl ?_
     refine Ops_step (R_move rfl) rfl rfl ?_
     refine Ops_call (C_func TFmTrip.bd18 rfl) rfl rfl ?_
     refine (frame_Peek_ok (x0 := r13_0) hI.st (hg.up hI.le) hc13_0 (hs13_0.up hI.sub) h).mono ?_
     rintro _ w23_ ⟨l23_0, r23_0, r23_1, L23_, H23_, rfl, hI23_, hr23_0, h⟩
     refine Exists.elim (hI.call hI23_ (by simp)) fun L230_ h23_ => ?_
     have hz23_ := hI.size
     replace hI := h23_.1
     have u23_ := h23_.2.1
     have hl23_ := h23_.2.2
     clear h23_
     replace hs0 := hs0.up u23_.hh
     replace hs3 := hs3.up u23_.hh
     replace hs2_1 := hs2_1.up u23_.hh
     replace ht2_ := ht2_.up u23_ (by simp)
     replace hll11_ := hll11_.trans u23_.ll
     replace hhh11_ := hhh11_.trans u23_.hh
     replace hs18_0_1 := hs18_0_1.up u23_.hh
     replace ht19_ := ht19_.up u23_ (by simp)
     replace hr23_0 := Rp.mono hl23_ hr23_0
     obtain ⟨A23_0_1, c23_0_1, rfl, ⟨hc23_0_1, hs23_0_1⟩⟩ := hr23_0
     clear hI23_ u23_ hl23_
     refine ⟨_, rfl, ?_⟩
     refine Ops_step (R_move rfl) rfl rfl ?_
     refine Ops_step (R_extract (v := .agg #[vi r23_0.Conn_, vi r23_0.Seq_, vi r23_0.Ack_, .slice A23_0_1 r23_0.Body_.length c23_0_1]) rfl rfl) rfl rfl ?_
     refine Ops_step (R_extract (v := vi r23_1) rfl rfl) rfl rfl ?_
     have hlo24_b2_ := ht2_.blk.lt
     have hlo24_b19_ := ht19_.blk.lt
     have hI0_ := hI
     refine Ops_to (R_alloc TFmTrip.zr32) rfl rfl ?_
     rintro _ w24_ ⟨b24_, rfl, hb24_, hB24_, hF24_⟩
     replace hI := hI.fr0 hF24_
     replace ht2_ := ht2_.fr0 hF24_
     replace ht19_ := ht19_.fr0 hF24_
     have ht24_ : Tok H23_ _ b24_ 32 ([vi 0, vi 0, vi 0, .slice none 0 0]) := ⟨hB24_.to rfl, Out.ge hI0_.st (Nat.le_of_eq hb24_.symm)⟩
     have hge_b24_ : w.heap.size ≤ b24_ := hb24_ ▸ hI0_.size
     have hne24_b2_ : b2_ ≠ b24_ := fun e_ => absurd hlo24_b2_ (by omega)
     have hne24_b19_ : b19_ ≠ b24_ := fun e_ => absurd hlo24_b19_ (by omega)
     clear hB24_ hb24_ hI0_ hF24_
     refine Ops_to0 (R_storeN TFmTrip.sz32 rfl rfl rfl ht24_.blk (Nat.le_of_ble_eq_true rfl) rfl) rfl ?_
     rintro _ w25_ ⟨hB25_, hF25_⟩
     replace hI := hI.tok hF25_ (out1 ht24_.out) (new1 hge_b24_)
     replace ht2_ := ht2_.fr hF25_ (ne1 hne24_b2_)
     replace ht19_ := ht19_.fr hF25_ (ne1 hne24_b19_)
     replace ht24_ : Tok H23_ _ b24_ 32 ([vi r23_0.Conn_, vi r23_0.Seq_, vi r23_0.Ack_, .slice A23_0_1 r23_0.Body_.length c23_0_1]) := ⟨hB25_, ht24_.out⟩
     clear hF25_ hB25_
     refine Ops_step (R_assign rfl) rfl rfl ?_
     refine Ops_nil ?_
     refine then_n (hK22_ _ _ ?_)
     clear hK22_ K22_
     refine W_keepB [0, 1, 3, 6, 11, 12, 13, 14] fun B26 hB26_ => ?_
     simp only [pickE, lookE, putE, zipE, args0, Nat.reduceAdd, za_, ca_, na_, Nat.reduceBEq, ct_, cf_] at hB26_
     subst hB26_
     refine Exists.elim h fun J27_ h => ?_
     have hr27_ := h.1
     replace h := h.2
     refine W_seq_join [0, 1, 3] [87] (fun vals_ w2 => ∃ (x87_27 : Bool) (L H : Gh), vals_ = [.bool x87_27] ∧ J27_ x87_27 ∧ Inv [] G w L H w2 ∧ Le L230_ L ∧ Le H23_ H ∧ True) (fun B27 hB27_ => ?_) (fun B27 hB27_ => ?_)
     ·
      simp only [pickE, lookE, putE, zipE, args0, Nat.reduceAdd, za_, ca_, na_, Nat.reduceBEq, ct_, cf_] at hB27_
      subst hB27_
      clear hr27_
      have hll27_ := Le.refl L230_
      have hhh27_ := Le.refl H23_
      refine W_region [some 55, some 56, some 57, some 58, some 59, some 60, some 61, some 62, some 63, some 64, some 65, some 66, some 67, some 68, some 69, some 70, some 71, some 72, some 73, some 74, some 75, some 76, some 77, some 78, some 79, some 80, some 81, some 82, some 83, some 84, some 85, some 86, some 87] rfl ?_
      refine Ops_step (R_move rfl) rfl rfl ?_
      refine Ops_step (R_neq rfl rfl) rfl rfl ?_
      refine Ops_step (R_move rfl) rfl rfl ?_
      refine Ops_split 57 rfl (fun hg28_ => ?_) (fun hg28_ => ?_)
      ·
       replace h := h.1 hg28_
       refine Ops_pass rfl rfl ?_
       refine Ops_pass rfl rfl ?_
       refine Ops_pass rfl rfl ?_
       refine Ops_pass rfl rfl ?_
       refine Ops_step (R_pick_true rfl rfl) rfl rfl ?_
       refine Ops_step (R_move rfl) rfl rfl ?_
       refine Ops_pass rfl rfl ?_
       refine Ops_pass rfl rfl ?_
       refine Ops_step (R_pick_true rfl rfl) rfl rfl ?_
       refine Ops_step (R_move rfl) rfl rfl ?_
       refine Ops_pass rfl rfl ?_
       refine Ops_pass rfl rfl ?_
       refine Ops_pass rfl rfl ?_
       refine Ops_pass rfl rfl ?_
       refine Ops_pass rfl rfl ?_
       refine Ops_step (R_pick_true rfl rfl) rfl rfl ?_
       refine Ops_step (R_move rfl) rfl rfl ?_
       refine Ops_pass rfl rfl ?_
       refine Ops_pass rfl rfl ?_
       refine Ops_pass rfl rfl ?_
       refine Ops_pass rfl rfl ?_
       refine Ops_pass rfl rfl ?_
       refine Ops_step (R_pick_true rfl rfl) rfl rfl ?_
       refine Ops_step (R_move rfl) rfl rfl ?_
       refine Ops_pass rfl rfl ?_
       refine Ops_pass rfl rfl ?_
       refine Ops_pass rfl rfl ?_
       refine Ops_pass rfl rfl ?_
       refine Ops_pass rfl rfl ?_
       refine Ops_step (R_pick_true rfl rfl) rfl rfl ?_
       refine Ops_nil ?_
       refine then_n ?_
       exact ⟨_, rfl, ⟨true, _, _, rfl, h, hI, hll27_, hhh27_, trivial⟩, ⟨rfl, rfl, rfl, trivial⟩⟩
      ·
       replace h := h.2 hg28_
       refine Ops_step (R_loadN TFmTrip.ag32 TFmTrip.sz32 rfl ht2_.blk (Nat.le_of_ble_eq_true rfl)) rfl rfl ?_
       refine Ops_step (R_loadN TFmTrip.ag32 TFmTrip.sz32 rfl ht19_.blk (Nat.le_of_ble_eq_true rfl)) rfl rfl ?_
       refine Ops_call (C_func TFmTrip.bd22 rfl) rfl rfl ?_
       refine (sealskinref13_SameFrame_ok (x0 := x2) (x1 := r18_0) hI.st (hg.up hI.le) ⟨A2_1, c2_1, rfl, ⟨hc2_1, hs2_1⟩⟩ ⟨A18_0_1, c18_0_1, rfl, ⟨hc18_0_1, hs18_0_1⟩⟩ h).mono ?_
       rintro _ w29_ ⟨r29_0, L29_, H29_, rfl, hI29_, h⟩
       refine Exists.elim (hI.call hI29_ (by simp)) fun L290_ h29_ => ?_
       have hz29_ := hI.size
       replace hI := h29_.1
       have u29_ := h29_.2.1
       have hl29_ := h29_.2.2
       clear h29_
       replace hs0 := hs0.up u29_.hh
       replace hs3 := hs3.up u29_.hh
       replace hs2_1 := hs2_1.up u29_.hh
       replace ht2_ := ht2_.up u29_ (by simp)
       replace hll11_ := hll11_.trans u29_.ll
       replace hhh11_ := hhh11_.trans u29_.hh
       replace hs23_0_1 := hs23_0_1.up u29_.ll
       replace ht24_ := ht24_.up u29_ (by simp)
       replace hll27_ := hll27_.trans u29_.ll
       replace hhh27_ := hhh27_.trans u29_.hh
       clear hI29_ u29_ hl29_
       refine ⟨_, rfl, ?_⟩
       refine Ops_step (R_not rfl) rfl rfl ?_
       refine Ops_step (R_pick_false rfl rfl) rfl rfl ?_
       refine Ops_step (R_move rfl) rfl rfl ?_
       refine Ops_splitB 63 rfl (fun hg30_ => ?_) (fun hg30_ => ?_)
       ·
        replace h := h.1 hg30_
        refine Ops_pass rfl rfl ?_
        refine Ops_pass rfl rfl ?_
        refine Ops_step (R_pick_true rfl rfl) rfl rfl ?_
        refine Ops_step (R_move rfl) rfl rfl ?_
        refine Ops_pass rfl rfl ?_
        refine Ops_pass rfl rfl ?_
        refine Ops_pass rfl rfl ?_
        refine Ops_pass rfl rfl ?_
        refine Ops_pass rfl rfl ?_
        refine Ops_step (R_pick_true rfl rfl) rfl rfl ?_
        refine Ops_step (R_move rfl) rfl rfl ?_
        refine Ops_pass rfl rfl ?_
        refine Ops_pass rfl rfl ?_
        refine Ops_pass rfl rfl ?_
        refine Ops_pass rfl rfl ?_
        refine Ops_pass rfl rfl ?_
        refine Ops_step (R_pick_true rfl rfl) rfl rfl ?_
        refine Ops_step (R_move rfl) rfl rfl ?_
        refine Ops_pass rfl rfl ?_
        refine Ops_pass rfl rfl ?_
        refine Ops_pass rfl rfl ?_
        refine Ops_pass rfl rfl ?_
        refine Ops_pass rfl rfl ?_
        refine Ops_step (R_pick_true rfl rfl) rfl rfl ?_
        refine Ops_nil ?_
        refine then_n ?_
        exact ⟨_, rfl, ⟨true, _, _, rfl, h, hI, hll27_, hhh27_, trivial⟩, ⟨rfl, rfl, rfl, trivial⟩⟩
       ·
        replace h := h.2 hg30_
        refine Ops_step (R_move rfl) rfl rfl ?_
        refine Ops_step (R_neq rfl rfl) rfl rfl ?_
        refine Ops_step (R_pick_false rfl rfl) rfl rfl ?_
        refine Ops_step (R_move rfl) rfl rfl ?_
        refine Ops_split 67 rfl (fun hg31_ => ?_) (fun hg31_ => ?_)
        ·
         replace h := h.1 hg31_
         refine Ops_pass rfl rfl ?_
         refine Ops_pass rfl rfl ?_
         refine Ops_pass rfl rfl ?_
         refine Ops_pass rfl rfl ?_
         refine Ops_pass rfl rfl ?_
         refine Ops_step (R_pick_true rfl rfl) rfl rfl ?_
         refine Ops_step (R_move rfl) rfl rfl ?_
         refine Ops_pass rfl rfl ?_
         refine Ops_pass rfl rfl ?_
         refine Ops_pass rfl rfl ?_
         refine Ops_pass rfl rfl ?_
         refine Ops_pass rfl rfl ?_
         refine Ops_step (R_pick_true rfl rfl) rfl rfl ?_
         refine Ops_step (R_move rfl) rfl rfl ?_
         refine Ops_pass rfl rfl ?_
         refine Ops_pass rfl rfl ?_
         refine Ops_pass rfl rfl ?_
         refine Ops_pass rfl rfl ?_
         refine Ops_pass rfl rfl ?_
         refine Ops_step (R_pick_true rfl rfl) rfl rfl ?_
         refine Ops_nil ?_
         refine then_n ?_
         exact ⟨_, rfl, ⟨true, _, _, rfl, h, hI, hll27_, hhh27_, trivial⟩, ⟨rfl, rfl, rfl, trivial⟩⟩
        ·
         replace h := h.2 hg31_
         refine Ops_step (R_fieldAddr TFmTrip.fo32_0 rfl) rfl rfl ?_
         refine Ops_step (R_loadB (v := vi r23_0.Conn_) TFmTrip.ag3 rfl ht24_.blk rfl) rfl rfl ?_
         refine Ops_step (R_fieldAddr TFmTrip.fo32_0 rfl) rfl rfl ?_
         refine Ops_step (R_loadB (v := vi x2.Conn_) TFmTrip.ag3 rfl ht2_.blk rfl) rfl rfl ?_
         refine Ops_step (R_neq rfl rfl) rfl rfl ?_
         refine Ops_step (R_pick_false rfl rfl) rfl rfl ?_
         refine Ops_step (R_move rfl) rfl rfl ?_
         refine Ops_split 74 rfl (fun hg32_ => ?_) (fun hg32_ => ?_)
         ·
          replace h := h.1 hg32_
          refine Ops_pass rfl rfl ?_
          refine Ops_pass rfl rfl ?_
          refine Ops_pass rfl rfl ?_
          refine Ops_pass rfl rfl ?_
          refine Ops_pass rfl rfl ?_
          refine Ops_step (R_pick_true rfl rfl) rfl rfl ?_
          refine Ops_step (R_move rfl) rfl rfl ?_
          refine Ops_pass rfl rfl ?_
          refine Ops_pass rfl rfl ?_
          refine Ops_pass rfl rfl ?_
          refine Ops_pass rfl rfl ?_
          refine Ops_pass rfl rfl ?_
          refine Ops_step (R_pick_true rfl rfl) rfl rfl ?_
          refine Ops_nil ?_
          refine then_n ?_
          exact ⟨_, rfl, ⟨true, _, _, rfl, h, hI, hll27_, hhh27_, trivial⟩, ⟨rfl, rfl, rfl, trivial⟩⟩
         ·
          replace h := h.2 hg32_
          refine Ops_step (R_fieldAddr TFmTrip.fo32_1 rfl) rfl rfl ?_
          refine Ops_step (R_loadB (v := vi r23_0.Seq_) TFmTrip.ag3 rfl ht24_.blk rfl) rfl rfl ?_
          refine Ops_step (R_fieldAddr TFmTrip.fo32_1 rfl) rfl rfl ?_
          refine Ops_step (R_loadB (v := vi x2.Seq_) TFmTrip.ag3 rfl ht2_.blk rfl) rfl rfl ?_
          refine Ops_step (R_neq rfl rfl) rfl rfl ?_
          refine Ops_step (R_pick_false rfl rfl) rfl rfl ?_
          refine Ops_step (R_move rfl) rfl rfl ?_
          refine Ops_split 81 rfl (fun hg33_ => ?_) (fun hg33_ => ?_)
          ·
           replace h := h.1 hg33_
           refine Ops_pass rfl rfl ?_
           refine Ops_pass rfl rfl ?_
           refine Ops_pass rfl rfl ?_
           refine Ops_pass rfl rfl ?_
           refine Ops_pass rfl rfl ?_
           refine Ops_step (R_pick_true rfl rfl) rfl rfl ?_
           refine Ops_nil ?_
           refine then_n ?_
           exact ⟨_, rfl, ⟨true, _, _, rfl, h, hI, hll27_, hhh27_, trivial⟩, ⟨rfl, rfl, rfl, trivial⟩⟩
          ·
           replace h := h.2 hg33_
           refine Ops_step (R_fieldAddr TFmTrip.fo32_2 rfl) rfl rfl ?_
           refine Ops_step (R_loadB (v := vi r23_0.Ack_) TFmTrip.ag3 rfl ht24_.blk rfl) rfl rfl ?_
           refine Ops_step (R_fieldAddr TFmTrip.fo32_2 rfl) rfl rfl ?_
           refine Ops_step (R_loadB (v := vi x2.Ack_) TFmTrip.ag3 rfl ht2_.blk rfl) rfl rfl ?_
           refine Ops_step (R_neq rfl rfl) rfl rfl ?_
           refine Ops_step (R_pick_false rfl rfl) rfl rfl ?_
           refine Ops_nil ?_
           refine then_n ?_
           exact ⟨_, rfl, ⟨(decide (r23_0.Ack_ ≠ x2.Ack_)), _, _, rfl, h, hI, hll27_, hhh27_, trivial⟩, ⟨rfl, rfl, rfl, trivial⟩⟩
     ·
      simp only [pickE, lookE, putE, zipE, args0, Nat.reduceAdd, za_, ca_, na_, Nat.reduceBEq, ct_, cf_] at hB27_
      subst hB27_
      clear h
      rintro _ w27_ ⟨x87_27, L27_, H27_, rfl, hJ27_, hI27_, hll27_, hhh27_, -⟩
      replace hI := hI27_
      clear hI27_
      have h := hr27_ x87_27 hJ27_
      clear hr27_ hJ27_
      replace hs0 := hs0.up hhh27_
      replace hs3 := hs3.up hhh27_
      replace hll11_ := hll11_.trans hll27_
      replace hhh11_ := hhh11_.trans hhh27_
      refine W_cond rfl (fun hc34_ => ?_) (fun hc34_ => ?_)
      ·
       replace h := h.1 hc34_
       refine W_seq_k fun K35_ hK35_ => ?_
       refine W_region [some 8] rfl ?_
       refine Ops_step (R_assign rfl) rfl rfl ?_
       refine Ops_nil ?_
       refine then_n (hK35_ _ _ ?_)
       clear hK35_ K35_
       refine W_ret ?_
       refine then_ret ?_
       refine ⟨_, ⟨_, _, rfl, rfl, rfl⟩, ?_⟩
       exact ⟨false, _, _, rfl, hI, h⟩
      ·
       replace h := h.2 hc34_
       refine W_skip ?_
       refine then_n ?_
       exact ⟨_, rfl, ⟨_, _, rfl, h, hI, hll11_, hhh11_, trivial⟩, ⟨rfl, rfl, rfl, trivial⟩⟩
    ·
     replace h := h.2 hc16_
     refine W_skip ?_
     refine then_n ?_
     exact ⟨_, rfl, ⟨_, _, rfl, h, hI, hll11_, hhh11_, trivial⟩, ⟨rfl, rfl, rfl, trivial⟩⟩
   ·
    simp only [pickE, lookE, putE, zipE, args0, Nat.reduceAdd, za_, ca_, na_, Nat.reduceBEq, ct_, cf_] at hB11_
    subst hB11_
    clear h
    rintro _ w11_ ⟨L11_, H11_, rfl, hJ11_, hI11_, hll11_, hhh11_, -⟩
    replace hI := hI11_
    clear hI11_
    have h := hr11_ hJ11_
    clear hr11_ hJ11_
    replace hs0 := hs0.up hhh11_
    replace hs3 := hs3.up hhh11_
    refine W_seq_k fun K36_ hK36_ => ?_
    refine W_region [some 89, some 90, some 91, some 92, some 88, some 93, some 94, some 15, none, some 16] rfl ?_
    refine Ops_step (R_move rfl) rfl rfl ?_
    refine Ops_step (R_move rfl) rfl rfl ?_
    refine Ops_step (R_move rfl) rfl rfl ?_
    refine Ops_call (C_func TFmTrip.bd20 rfl) rfl rfl ?_
    refine (frame_Unwrap_ok (x0 := x0) (x1 := x1) (x2 := x3) hI.st (hg.up hI.le) hc0 hs0 hc3 hs3 h).mono ?_
    rintro _ w37_ ⟨l37_0, r37_0, r37_1, L37_, H37_, rfl, hI37_, hr37_0, h⟩
    refine Exists.elim (hI.call hI37_ (by simp)) fun L370_ h37_ => ?_
    have hz37_ := hI.size
    replace hI := h37_.1
    have u37_ := h37_.2.1
    have hl37_ := h37_.2.2
    clear h37_
    replace hs0 := hs0.up u37_.hh
    replace hs3 := hs3.up u37_.hh
    obtain ⟨A37_0_1, c37_0_1, rfl, ⟨hc37_0_1, hs37_0_1⟩⟩ := hr37_0
    clear hI37_ u37_ hl37_
    refine ⟨_, rfl, ?_⟩
    refine Ops_step (R_move rfl) rfl rfl ?_
    refine Ops_step (R_extract (v := .agg #[vi r37_0.Conn_, vi r37_0.Seq_, vi r37_0.Ack_, .slice A37_0_1 r37_0.Body_.length c37_0_1]) rfl rfl) rfl rfl ?_
    refine Ops_step (R_extract (v := vi r37_1) rfl rfl) rfl rfl ?_
    have hI0_ := hI
    refine Ops_to (R_alloc TFmTrip.zr32) rfl rfl ?_
    rintro _ w38_ ⟨b38_, rfl, hb38_, hB38_, hF38_⟩
    replace hI := hI.fr0 hF38_
    have ht38_ : Tok H37_ _ b38_ 32 ([vi 0, vi 0, vi 0, .slice none 0 0]) := ⟨hB38_.to rfl, Out.ge hI0_.st (Nat.le_of_eq hb38_.symm)⟩
    have hge_b38_ : w.heap.size ≤ b38_ := hb38_ ▸ hI0_.size
    clear hB38_ hb38_ hI0_ hF38_
    refine Ops_to0 (R_storeN TFmTrip.sz32 rfl rfl rfl ht38_.blk (Nat.le_of_ble_eq_true rfl) rfl) rfl ?_
    rintro _ w39_ ⟨hB39_, hF39_⟩
    replace hI := hI.tok hF39_ (out1 ht38_.out) (new1 hge_b38_)
    replace ht38_ : Tok H37_ _ b38_ 32 ([vi r37_0.Conn_, vi r37_0.Seq_, vi r37_0.Ack_, .slice A37_0_1 r37_0.Body_.length c37_0_1]) := ⟨hB39_, ht38_.out⟩
    clear hF39_ hB39_
    refine Ops_step (R_assign rfl) rfl rfl ?_
    refine Ops_nil ?_
    refine then_n (hK36_ _ _ ?_)
    clear hK36_ K36_
    refine W_keepB [0, 1, 3, 15, 16] fun B40 hB40_ => ?_
    simp only [pickE, lookE, putE, zipE, args0, Nat.reduceAdd, za_, ca_, na_, Nat.reduceBEq, ct_, cf_] at hB40_
    subst hB40_
    refine W_seq_k fun K41_ hK41_ => ?_
    refine W_seq_k fun K42_ hK42_ => ?_
    refine W_region [some 95, some 96] rfl ?_
    refine Ops_step (R_move rfl) rfl rfl ?_
    refine Ops_step (R_neq rfl rfl) rfl rfl ?_
    refine Ops_nil ?_
    refine then_n (hK42_ _ _ ?_)
    clear hK42_ K42_
    refine W_if rfl (fun hc43_ => ?_) (fun hc43_ => ?_)
    ·
     replace h := h.1 hc43_
     refine W_seq_k fun K44_ hK44_ => ?_
     refine W_region [some 97, some 98, some 99, some 100, some 101, some 102, some 8] rfl ?_
     refine Ops_step (R_loadN TFmTrip.ag32 TFmTrip.sz32 rfl ht38_.blk (Nat.le_of_ble_eq_true rfl)) rfl rfl ?_
     refine Ops_step (R_build (pl := []) (cs := [vi 0, vi 0, vi 0, .slice none 0 0]) TFmTrip.zr32 TFmTrip.pl32 rfl rfl rfl) rfl rfl ?_
     refine Ops_call (C_func TFmTrip.bd22 rfl) rfl rfl ?_
     refine (sealskinref13_SameFrame_ok (x0 := r37_0) (x1 := (api_Frame.mk 0 0 0 [])) hI.st (hg.up hI.le) ⟨A37_0_1, c37_0_1, rfl, ⟨hc37_0_1, hs37_0_1⟩⟩ ⟨none, 0, rfl, ⟨(Nat.le_refl 0), Sl.nil⟩⟩ h).mono ?_
     rintro _ w45_ ⟨r45_0, L45_, H45_, rfl, hI45_, h⟩
     refine Exists.elim (hI.call hI45_ (by simp)) fun L450_ h45_ => ?_
     have hz45_ := hI.size
     replace hI := h45_.1
     have u45_ := h45_.2.1
     have hl45_ := h45_.2.2
     clear h45_
     clear hI45_ u45_ hl45_
     refine ⟨_, rfl, ?_⟩
     refine Ops_step (R_move rfl) rfl rfl ?_
     refine Ops_splitB 100 rfl (fun hg46_ => ?_) (fun hg46_ => ?_)
     ·
      replace h := h.1 hg46_
      refine Ops_call (C_func TFmTrip.bd13 rfl) rfl rfl ?_
      refine (sealskinlaw13_awake_ok  hI.st (hg.up hI.le)  h).mono ?_
      rintro _ w47_ ⟨r47_0, L47_, H47_, rfl, hI47_, h⟩
      refine Exists.elim (hI.call hI47_ (by simp)) fun L470_ h47_ => ?_
      have hz47_ := hI.size
      replace hI := h47_.1
      have u47_ := h47_.2.1
      have hl47_ := h47_.2.2
      clear h47_
      clear hI47_ u47_ hl47_
      refine ⟨_, rfl, ?_⟩
      refine Ops_step (R_pick_true rfl rfl) rfl rfl ?_
      refine Ops_step (R_assign rfl) rfl rfl ?_
      refine Ops_nil ?_
      refine then_n (hK44_ _ _ ?_)
      clear hK44_ K44_
      refine W_keepB [8] fun B48 hB48_ => ?_
      simp only [pickE, lookE, putE, zipE, args0, Nat.reduceAdd, za_, ca_, na_, Nat.reduceBEq, ct_, cf_] at hB48_
      subst hB48_
      refine W_ret ?_
      refine then_ret ?_
      clear hK41_ K41_
      refine ⟨_, ⟨_, _, rfl, rfl, rfl⟩, ?_⟩
      exact ⟨r47_0, _, _, rfl, hI, h⟩
     ·
      replace h := h.2 hg46_
      refine Ops_pass rfl rfl ?_
      refine Ops_step (R_pick_false rfl rfl) rfl rfl ?_
      refine Ops_step (R_assign rfl) rfl rfl ?_
      refine Ops_nil ?_
      refine then_n (hK44_ _ _ ?_)
      clear hK44_ K44_
      refine W_keepB [8] fun B49 hB49_ => ?_
      simp only [pickE, lookE, putE, zipE, args0, Nat.reduceAdd, za_, ca_, na_, Nat.reduceBEq, ct_, cf_] at hB49_
      subst hB49_
      refine W_ret ?_
      refine then_ret ?_
      clear hK41_ K41_
      refine ⟨_, ⟨_, _, rfl, rfl, rfl⟩, ?_⟩
      exact ⟨false, _, _, rfl, hI, h⟩
    ·
     replace h := h.2 hc43_
     refine W_skip ?_
     refine then_n (hK41_ _ _ ?_)
     clear hK41_ K41_
     refine W_seq_k fun K50_ hK50_ => ?_
     refine W_region [some 104, some 105, some 106, some 107, some 103, some 108, some 109, some 17, some 18] rfl ?_
     refine Ops_step (R_move rfl) rfl rfl ?_
     refine Ops_step (R_move rfl) rfl rfl ?_
     refine Ops_step (R_loadN TFmTrip.ag32 TFmTrip.sz32 rfl ht38_.blk (Nat.le_of_ble_eq_true rfl)) rfl rfl ?_
     refine Ops_call (C_func TFmTrip.bd30 rfl) rfl rfl ?_
     refine (frame_Wrap_ok (x0 := x0) (x1 := x1) (x2 := r37_0) hI.st (hg.up hI.le) hc0 hs0 ⟨A37_0_1, c37_0_1, rfl, ⟨hc37_0_1, hs37_0_1⟩⟩ h).mono ?_
     rintro _ w51_ ⟨A51_0, c51_0, r51_0, r51_1, L51_, H51_, rfl, hI51_, hc51_0, hs51_0, h⟩
     refine Exists.elim (hI.call hI51_ (by simp)) fun L510_ h51_ => ?_
     have hz51_ := hI.size
     replace hI := h51_.1
     have u51_ := h51_.2.1
     have hl51_ := h51_.2.2
     clear h51_
     replace hs3 := hs3.up u51_.hh
     replace hs51_0 := hs51_0.up hl51_
     clear hI51_ u51_ hl51_
     refine ⟨_, rfl, ?_⟩
     refine Ops_step (R_move rfl) rfl rfl ?_
     refine Ops_step (R_extract (v := .slice A51_0 r51_0.length c51_0) rfl rfl) rfl rfl ?_
     refine Ops_step (R_extract (v := vi r51_1) rfl rfl) rfl rfl ?_
     refine Ops_step (R_assign rfl) rfl rfl ?_
     refine Ops_step (R_assign rfl) rfl rfl ?_
     refine Ops_nil ?_
     refine then_n (hK50_ _ _ ?_)
     clear hK50_ K50_
     refine W_keepB [3, 17, 18] fun B52 hB52_ => ?_
     simp only [pickE, lookE, putE, zipE, args0, Nat.reduceAdd, za_, ca_, na_, Nat.reduceBEq, ct_, cf_] at hB52_
     subst hB52_
     refine W_seq_k fun K53_ hK53_ => ?_
     refine W_region [some 110, some 111, some 112, some 113, some 114, some 115, some 116, some 117, some 118, some 119, some 8] rfl ?_
     refine Ops_step (R_move rfl) rfl rfl ?_
     refine Ops_step (R_eql rfl rfl) rfl rfl ?_
     refine Ops_step (R_move rfl) rfl rfl ?_
     refine Ops_split 112 rfl (fun hg54_ => ?_) (fun hg54_ => ?_)
     ·
      replace h := h.1 hg54_
      refine Ops_step (R_move rfl) rfl rfl ?_
      refine Ops_step (R_move rfl) rfl rfl ?_
      refine Ops_call (C_func TFmTrip.bd26 rfl) rfl rfl ?_
      refine (bytes_Equal_ok (x0 := r51_0) (x1 := x3) hI.st (hg.up hI.le) hc51_0 (hs51_0.up hI.sub) hc3 hs3 h).mono ?_
      rintro _ w55_ ⟨r55_0, L55_, H55_, rfl, hI55_, h⟩
      refine Exists.elim (hI.call hI55_ (by simp)) fun L550_ h55_ => ?_
      have hz55_ := hI.size
      replace hI := h55_.1
      have u55_ := h55_.2.1
      have hl55_ := h55_.2.2
      clear h55_
      clear hI55_ u55_ hl55_
      refine ⟨_, rfl, ?_⟩
      refine Ops_step (R_pick_true rfl rfl) rfl rfl ?_
      refine Ops_step (R_move rfl) rfl rfl ?_
      refine Ops_splitB 117 rfl (fun hg56_ => ?_) (fun hg56_ => ?_)
      ·
       replace h := h.1 hg56_
       refine Ops_call (C_func TFmTrip.bd13 rfl) rfl rfl ?_
       refine (sealskinlaw13_awake_ok  hI.st (hg.up hI.le)  h).mono ?_
       rintro _ w57_ ⟨r57_0, L57_, H57_, rfl, hI57_, h⟩
       refine Exists.elim (hI.call hI57_ (by simp)) fun L570_ h57_ => ?_
       have hz57_ := hI.size
       replace hI := h57_.1
       have u57_ := h57_.2.1
       have hl57_ := h57_.2.2
       clear h57_
       clear hI57_ u57_ hl57_
       refine ⟨_, rfl, ?_⟩
       refine Ops_step (R_pick_true rfl rfl) rfl rfl ?_
       refine Ops_step (R_assign rfl) rfl rfl ?_
       refine Ops_nil ?_
       refine then_n (hK53_ _ _ ?_)
       clear hK53_ K53_
       refine W_keepB [8] fun B58 hB58_ => ?_
       simp only [pickE, lookE, putE, zipE, args0, Nat.reduceAdd, za_, ca_, na_, Nat.reduceBEq, ct_, cf_] at hB58_
       subst hB58_
       refine W_ret ?_
       refine ⟨_, ⟨_, _, rfl, rfl, rfl⟩, ?_⟩
       exact ⟨r57_0, _, _, rfl, hI, h⟩
      ·
       replace h := h.2 hg56_
       refine Ops_pass rfl rfl ?_
       refine Ops_step (R_pick_false rfl rfl) rfl rfl ?_
       refine Ops_step (R_assign rfl) rfl rfl ?_
       refine Ops_nil ?_
       refine then_n (hK53_ _ _ ?_)
       clear hK53_ K53_
       refine W_keepB [8] fun B59 hB59_ => ?_
       simp only [pickE, lookE, putE, zipE, args0, Nat.reduceAdd, za_, ca_, na_, Nat.reduceBEq, ct_, cf_] at hB59_
       subst hB59_
       refine W_ret ?_
       refine ⟨_, ⟨_, _, rfl, rfl, rfl⟩, ?_⟩
       exact ⟨false, _, _, rfl, hI, h⟩
     ·
      replace h := h.2 hg54_
      refine Ops_pass rfl rfl ?_
      refine Ops_pass rfl rfl ?_
      refine Ops_pass rfl rfl ?_
      refine Ops_step (R_pick_false rfl rfl) rfl rfl ?_
      refine Ops_step (R_move rfl) rfl rfl ?_
      refine Ops_pass rfl rfl ?_
      refine Ops_step (R_pick_false rfl rfl) rfl rfl ?_
      refine Ops_step (R_assign rfl) rfl rfl ?_
      refine Ops_nil ?_
      refine then_n (hK53_ _ _ ?_)
      clear hK53_ K53_
      refine W_keepB [8] fun B60 hB60_ => ?_
      simp only [pickE, lookE, putE, zipE, args0, Nat.reduceAdd, za_, ca_, na_, Nat.reduceBEq, ct_, cf_] at hB60_
      subst hB60_
      refine W_ret ?_
      refine ⟨_, ⟨_, _, rfl, rfl, rfl⟩, ?_⟩
      exact ⟨false, _, _, rfl, hI, h⟩

end Go.Proofs.YtbjmngacjdcddaaDoor

