/- What is shown of the program on the way to the law. -/
import Derived.Test.YtbjmngacjdcddaaDoorZW2
import Derived.Test.YtbjmngacjdcddaaDoorZW11
import Derived.Test.YtbjmngacjdcddaaDoorZW12
import Derived.Test.YtbjmngacjdcddaaDoorZW17
import Derived.Test.YtbjmngacjdcddaaDoorZW18
import Derived.Test.YtbjmngacjdcddaaDoorProg
set_option linter.unusedVariables false
set_option linter.unusedSimpArgs false
set_option maxHeartbeats 4000000
namespace Go.Lx
open Go Go.Sx
instance : Rp api_Frame where
 n := 4
 cs := fun G x l => ∃ A1 c1, l = [vi x.Conn_, vi x.Seq_, vi x.Ack_, .slice A1 x.Body_.length c1] ∧ (x.Body_.length ≤ c1 ∧ Sl G A1 x.Body_)
 mono := fun hl ⟨A1, c1, e, ⟨a0, b0⟩⟩ => ⟨A1, c1, e, ⟨a0, b0.up hl⟩⟩
 len := fun ⟨A1, c1, e, _⟩ => by rw [e]; rfl
 one := fun ⟨A1, c1, e, _⟩ => by rw [e]; rfl
end Go.Lx
namespace Go.Proofs.YtbjmngacjdcddaaDoor
open Go Go.Sx Go.Lx
namespace TFtG
theorem hm : Tryd.prog.follows .mixedOrders = true := by kernel_rfl
theorem ag22 : aggB Tryd.prog 22 = some false := by kernel_rfl
theorem ag3 : aggB Tryd.prog 3 = some false := by kernel_rfl
theorem ag30 : aggB Tryd.prog 30 = some false := by kernel_rfl
theorem ag32 : aggB Tryd.prog 32 = some true := by kernel_rfl
theorem bd18 : bodied Tryd.prog 18 = true := by kernel_rfl
theorem bd24 : bodied Tryd.prog 24 = true := by kernel_rfl
theorem bd29 : bodied Tryd.prog 29 = true := by kernel_rfl
theorem bd44 : bodied Tryd.prog 44 = true := by kernel_rfl
theorem bd45 : bodied Tryd.prog 45 = true := by kernel_rfl
theorem bd46 : bodied Tryd.prog 46 = true := by kernel_rfl
theorem bd48 : bodied Tryd.prog 48 = true := by kernel_rfl
theorem bd49 : bodied Tryd.prog 49 = true := by kernel_rfl
theorem bd51 : bodied Tryd.prog 51 = true := by kernel_rfl
theorem bd52 : bodied Tryd.prog 52 = true := by kernel_rfl
theorem bd54 : bodied Tryd.prog 54 = true := by kernel_rfl
theorem bd56 : bodied Tryd.prog 56 = true := by kernel_rfl
theorem bd58 : bodied Tryd.prog 58 = true := by kernel_rfl
theorem bd59 : bodied Tryd.prog 59 = true := by kernel_rfl
theorem bd60 : bodied Tryd.prog 60 = true := by kernel_rfl
theorem bd61 : bodied Tryd.prog 61 = true := by kernel_rfl
theorem el30 : Elem Tryd.prog 30 5 1 1 := Elem.of (by kernel_rfl)
theorem el56 : Elem Tryd.prog 56 3 1 8 := Elem.of (by kernel_rfl)
theorem el99 : Elem Tryd.prog 99 30 1 24 := Elem.of (by kernel_rfl)
theorem fo32_0 : offB Tryd.prog 32 0 = some 0 := by kernel_rfl
theorem fo32_1 : offB Tryd.prog 32 1 = some 1 := by kernel_rfl
theorem fo32_2 : offB Tryd.prog 32 2 = some 2 := by kernel_rfl
theorem fo32_3 : offB Tryd.prog 32 3 = some 3 := by kernel_rfl
theorem pl32 : partPl Tryd.prog 32 = some [(0, 1), (1, 1), (2, 1), (3, 1)] := by kernel_rfl
theorem sz3 : sz Tryd.prog 3 = some 1 := by kernel_rfl
theorem sz30 : sz Tryd.prog 30 = some 1 := by kernel_rfl
theorem sz32 : sz Tryd.prog 32 = some 4 := by kernel_rfl
theorem sz5 : sz Tryd.prog 5 = some 1 := by kernel_rfl
theorem zr3 : zr Tryd.prog 3 = some ([.int .i64 0]) := by kernel_rfl
theorem zr30 : zr Tryd.prog 30 = some ([.slice none 0 0]) := by kernel_rfl
theorem zr32 : zr Tryd.prog 32 = some ([.int .i64 0] ++ [.int .i64 0] ++ [.int .i64 0] ++ [.slice none 0 0]) := by kernel_rfl
end TFtG
open TFtG
theorem frame_Key_ok {G : Gh} {w : World} (hS : St G w) (hg : GL G) {x0 : Str} {x1 : Int} {x2 : Int} {Q : (List UInt8) → Prop} (h : frame_Key x0 x1 x2 Q) : Calls Tryd.prog 27 #[vs x0, vi x1, vi x2] w fun e w2 => ∃ (A0 : Option Addr) (c0 : Nat) (r0 : List UInt8) (L H : Gh), e = .returned (.slice A0 r0.length c0) ∧ Inv [] G w L H w2 ∧ r0.length ≤ c0 ∧ Sl L A0 r0 ∧ Q r0 := by
 unfold frame_Key at h
 have hI := Inv.start (M := []) hS
 refine calls_W 20 Tryd.func27 rfl Tryd.ntmps27 rfl [.tmp 6] rfl ?_
 refine W_seq_k fun K1 k1 => ?_
 refine W_region [6] rfl (Ops_step (R_assign rfl) rfl rfl ?_)
 refine Ops_nil ?_
 refine then_n (k1 _ _ ?_)
 clear k1 K1
 refine W_seq_k fun K2 k2 => ?_
 refine W_region [10, 11, 12, 13, 14, 15, 16, 9, 17, 18, 7, 8] rfl (Ops_step (R_move rfl) rfl rfl ?_)
 refine Ops_to (X_strBytes (s := x0) Tryd.underlying9 Tryd.underlying30 Tryd.underlying5 rfl) rfl rfl ?_
 rintro _ w3_ ⟨A3_, c3_, rfl, hc3_, hR3_, hn3_, hF3_⟩
 refine Exists.elim (Inv.newRd hI hF3_ hR3_ hn3_) fun L3_ h3_ => Exists.elim h3_ fun H3_ h3_ => ?_
 replace hI := h3_.1
 have u3_ := h3_.2.1
 have hs3_ := h3_.2.2
 clear h3_ u3_ hR3_ hn3_ hF3_
 refine Ops_step (R_move rfl) rfl rfl (Ops_step (R_move rfl) rfl rfl ?_)
 refine Ops_to (R_buildSlice el56 zr3 (by decide) (by decide) rfl rfl) rfl rfl ?_
 rintro _ w4_ ⟨b4_, rfl, hb4_, hB4_, hF4_⟩
 have ho4_ : OwnS w.heap.size 3 Gh.no H3_ _ (some ⟨b4_, 0, none⟩) 2 ([x1, x2] : List Int) := OwnS.ofBlk hI.st hb4_ hB4_ (all2_sc' _) rfl (by have := hI.size; omega) (by show 2 ≤ maxLen; decide)
 replace hI := hI.fr0 hF4_
 clear hF4_ hB4_
 refine Exists.elim (ho4_.lend hI.st (Le.no _)) fun Hb5_0_ hb5_0_ => ?_
 refine Ops_call (C_func bd52 rfl) rfl rfl ?_
 refine (octet_Put_ok (x0 := []) (x1 := ([x1, x2] : List Int)) hb5_0_.1 (hg.up (hI.le.trans hb5_0_.2.1)) (Nat.le_refl 0) Sl.nil (Nat.le_refl _) hb5_0_.2.2 h).mono ?_
 rintro _ w5_ ⟨A5_0, c5_0, r5_0, L5_, H5_, rfl, hI5_, ho5_0, h⟩
 refine Exists.elim (hI.callB hb5_0_.2.1 hI5_ (by simp)) fun L50_ h5_ => Exists.elim h5_ fun H50_ h5_ => ?_
 have hz5_ := hI.size
 replace hI := h5_.1
 have u5_ := h5_.2.1
 have hl5_ := h5_.2.2.1
 have hh5_ := h5_.2.2.2
 clear h5_
 replace hs3_ := hs3_.up u5_.ll
 replace ho5_0 := OwnS.backS ho5_0 hz5_ hh5_
 clear hI5_ u5_ hl5_
 refine ⟨_, rfl, ?_⟩
 refine Exists.elim (ho5_0.freeze hI) fun L6_ h6_ => Exists.elim h6_ fun H6_ h6_ => ?_
 replace hI := h6_.1
 have u6_ := h6_.2.1
 have hs6_ := h6_.2.2.1 (Le.no _)
 have hc6_ := ho5_0.cap
 replace hs3_ := hs3_.up u6_.ll
 clear h6_ u6_ ho5_0
 refine Ops_call (C_func bd56 rfl) rfl rfl ?_
 refine (hash_Key_ok (x0 := x0.b) (x1 := r5_0) (x2 := 64) hI.st (hg.up hI.le) hc3_ (hs3_.up hI.sub) hc6_ (hs6_.up hI.sub) h).mono ?_
 rintro _ w7_ ⟨A7_0, c7_0, r7_0, r7_1, L7_, H7_, rfl, hI7_, hc7_0, hs7_0, h⟩
 refine Exists.elim (hI.call hI7_ (by simp)) fun L70_ h7_ => ?_
 have hz7_ := hI.size
 replace hI := h7_.1
 have u7_ := h7_.2.1
 have hl7_ := h7_.2.2
 clear h7_
 replace hs7_0 := hs7_0.up hl7_
 clear hI7_ u7_ hl7_
 refine ⟨_, rfl, ?_⟩
 refine Ops_step (R_move rfl) rfl rfl ?_
 refine Ops_step (R_extract (v := .slice A7_0 r7_0.length c7_0) rfl rfl) rfl rfl ?_
 refine Ops_step (R_extract (v := vi r7_1) rfl rfl) rfl rfl ?_
 refine Ops_step (R_assign rfl) rfl rfl (Ops_step (R_assign rfl) rfl rfl ?_)
 refine Ops_nil ?_
 refine then_n (k2 _ _ ?_)
 clear k2 K2
 refine W_keepB [7] fun B_ b_ => ?_
 simp only [e_, Nat.reduceAdd, Nat.reduceBEq] at b_
 subst b_
 refine W_seq_k fun K9 k9 => ?_
 refine W_region [19, 6] rfl (Ops_step (R_move rfl) rfl rfl (Ops_step (R_assign rfl) rfl rfl ?_))
 refine Ops_nil ?_
 refine then_n (k9 _ _ ?_)
 clear k9 K9
 refine W_ret ?_
 refine ⟨_, ⟨_, _, rfl, rfl, rfl⟩, ?_⟩
 exact ⟨A7_0, c7_0, r7_0, _, _, rfl, hI, hc7_0, hs7_0, h⟩

theorem frame_head_ok {G : Gh} {w : World} (hS : St G w) (hg : GL G) {l0 : List Value} {x0 : api_Frame} (hr0 : Rp.cs G x0 l0) {Q : (List UInt8) → Prop} (h : frame_head x0 Q) : Calls Tryd.prog 58 #[.agg l0.toArray] w fun e w2 => ∃ (A0 : Option Addr) (c0 : Nat) (r0 : List UInt8) (L H : Gh), e = .returned (.slice A0 r0.length c0) ∧ Inv [] G w L H w2 ∧ OwnS w.heap.size 5 L H w2 A0 c0 r0 ∧ Q r0 := by
 unfold frame_head at h
 have hI := Inv.start (M := []) hS
 refine calls_W 11 Tryd.func58 rfl Tryd.ntmps58 rfl [.tmp 2] rfl ?_
 obtain ⟨A0_1, c0_1, rfl, ⟨hc0_1, hs0_1⟩⟩ := hr0
 refine W_seq_k fun K1 k1 => ?_
 refine W_region [1, 2] rfl ?_
 have hI0_ := hI
 refine Ops_to (R_box rfl) rfl rfl ?_
 rintro _ w2_ ⟨b2_, rfl, hb2_, hB2_, hF2_⟩
 replace hI := hI.fr0 hF2_
 have ht2_ : Tok G _ b2_ 32 ([vi x0.Conn_, vi x0.Seq_, vi x0.Ack_, .slice A0_1 x0.Body_.length c0_1]) := ⟨hB2_.to rfl, Out.ge hI0_.st (Nat.le_of_eq hb2_.symm)⟩
 have hge_b2_ : w.heap.size ≤ b2_ := hb2_ ▸ hI0_.size
 clear hB2_ hb2_ hI0_ hF2_
 refine Ops_step (R_assign rfl) rfl rfl ?_
 refine Ops_nil ?_
 refine then_n (k1 _ _ ?_)
 clear k1 K1
 refine W_seq_k fun K3 k3 => ?_
 refine W_region [3, 4, 5, 6, 7, 8, 9, 10, 2] rfl (Ops_step (R_fieldAddr fo32_0 rfl) rfl rfl ?_)
 refine Ops_step (R_loadB (v := vi x0.Conn_) ag3 rfl ht2_.blk rfl) rfl rfl ?_
 refine Ops_step (R_fieldAddr fo32_1 rfl) rfl rfl ?_
 refine Ops_step (R_loadB (v := vi x0.Seq_) ag3 rfl ht2_.blk rfl) rfl rfl ?_
 refine Ops_step (R_fieldAddr fo32_2 rfl) rfl rfl ?_
 refine Ops_step (R_loadB (v := vi x0.Ack_) ag3 rfl ht2_.blk rfl) rfl rfl ?_
 refine Ops_to (R_buildSlice el56 zr3 (by decide) (by decide) rfl rfl) rfl rfl ?_
 rintro _ w4_ ⟨b4_, rfl, hb4_, hB4_, hF4_⟩
 have ho4_ : OwnS w.heap.size 3 Gh.no G _ (some ⟨b4_, 0, none⟩) 3 ([x0.Conn_, x0.Seq_, x0.Ack_] : List Int) := OwnS.ofBlk hI.st hb4_ hB4_ (all2_sc' _) rfl (by have := hI.size; omega) (by show 3 ≤ maxLen; decide)
 replace hI := hI.fr0 hF4_
 clear hF4_ hB4_
 refine Exists.elim (ho4_.lend hI.st (Le.no _)) fun Hb5_0_ hb5_0_ => ?_
 refine Ops_call (C_func bd52 rfl) rfl rfl ?_
 refine (octet_Put_ok (x0 := []) (x1 := ([x0.Conn_, x0.Seq_, x0.Ack_] : List Int)) hb5_0_.1 (hg.up (hI.le.trans hb5_0_.2.1)) (Nat.le_refl 0) Sl.nil (Nat.le_refl _) hb5_0_.2.2 h).mono ?_
 rintro _ w5_ ⟨A5_0, c5_0, r5_0, L5_, H5_, rfl, hI5_, ho5_0, h⟩
 refine Exists.elim (hI.callB hb5_0_.2.1 hI5_ (by simp)) fun L50_ h5_ => Exists.elim h5_ fun H50_ h5_ => ?_
 have hz5_ := hI.size
 replace hI := h5_.1
 have u5_ := h5_.2.1
 have hl5_ := h5_.2.2.1
 have hh5_ := h5_.2.2.2
 clear h5_
 replace ho5_0 := OwnS.backS ho5_0 hz5_ hh5_
 clear hI5_ u5_ hl5_
 refine ⟨_, rfl, ?_⟩
 refine Ops_step (R_assign rfl) rfl rfl ?_
 refine Ops_nil ?_
 refine then_n (k3 _ _ ?_)
 clear k3 K3
 refine W_keepB [2] fun B_ b_ => ?_
 simp only [e_, Nat.reduceAdd, Nat.reduceBEq] at b_
 subst b_
 refine W_ret ?_
 refine ⟨_, ⟨_, _, rfl, rfl, rfl⟩, ?_⟩
 exact ⟨A5_0, c5_0, r5_0, _, _, rfl, hI, (ho5_0.hl (Le.no _)), h⟩

theorem frame_once_ok {G : Gh} {w : World} (hS : St G w) (hg : GL G) {l0 : List Value} {x0 : api_Frame} (hr0 : Rp.cs G x0 l0) {x1 : Bool} {Q : (BitVec 64) → Prop} (h : frame_once x0 x1 Q) : Calls Tryd.prog 49 #[.agg l0.toArray, .bool x1] w fun e w2 => ∃ (r0 : BitVec 64) (L H : Gh), e = .returned (w64 r0) ∧ Inv [] G w L H w2 ∧ Q r0 := by
 unfold frame_once at h
 have hI := Inv.start (M := []) hS
 refine calls_W 14 Tryd.func49 rfl Tryd.ntmps49 rfl [.tmp 4] rfl ?_
 obtain ⟨A0_1, c0_1, rfl, ⟨hc0_1, hs0_1⟩⟩ := hr0
 refine W_seq_k fun K1 k1 => ?_
 refine W_region [2, 4] rfl ?_
 have hI0_ := hI
 refine Ops_to (R_box rfl) rfl rfl ?_
 rintro _ w2_ ⟨b2_, rfl, hb2_, hB2_, hF2_⟩
 replace hI := hI.fr0 hF2_
 have ht2_ : Tok G _ b2_ 32 ([vi x0.Conn_, vi x0.Seq_, vi x0.Ack_, .slice A0_1 x0.Body_.length c0_1]) := ⟨hB2_.to rfl, Out.ge hI0_.st (Nat.le_of_eq hb2_.symm)⟩
 have hge_b2_ : w.heap.size ≤ b2_ := hb2_ ▸ hI0_.size
 clear hB2_ hb2_ hI0_ hF2_
 refine Ops_step (R_assign rfl) rfl rfl ?_
 refine Ops_nil ?_
 refine then_n (k1 _ _ ?_)
 clear k1 K1
 refine W_seq_k fun K3 k3 => ?_
 refine W_region [6, 7, 8, 9, 5] rfl (Ops_step (R_fieldAddr fo32_1 rfl) rfl rfl ?_)
 refine Ops_step (R_loadB (v := vi x0.Seq_) ag3 rfl ht2_.blk rfl) rfl rfl ?_
 refine Ops_step (R_conv Tryd.underlying3 Tryd.underlying72 rfl (cI_64 _)) rfl rfl (Ops_step (R_shl rfl rfl (by decide) (shl64 (BitVec.ofInt 64 x0.Seq_) 1 (by decide))) rfl rfl (Ops_step (R_assign rfl) rfl rfl ?_))
 refine Ops_nil ?_
 refine then_n (k3 _ _ ?_)
 clear k3 K3
 refine W_keepB [1, 5] fun B_ b_ => ?_
 simp only [e_, Nat.reduceAdd, Nat.reduceBEq] at b_
 subst b_
 refine W_seq_k fun K5 k5 => ?_
 refine W_seq_k fun K6 k6 => ?_
 refine W_region [10] rfl (Ops_step (R_move rfl) rfl rfl ?_)
 refine Ops_nil ?_
 refine then_n (k6 _ _ ?_)
 clear k6 K6
 refine W_cond rfl (fun hc7_ => ?_) (fun hc7_ => ?_)
 ·
  replace h := h.1 hc7_
  refine W_seq_k fun K8 k8 => ?_
  refine W_region [11, 4] rfl (Ops_step (R_move rfl) rfl rfl (Ops_step (R_assign rfl) rfl rfl ?_))
  refine Ops_nil ?_
  refine then_n (k8 _ _ ?_)
  clear k8 K8
  refine W_ret ?_
  refine then_ret ?_
  clear k5 K5
  refine ⟨_, ⟨_, _, rfl, rfl, rfl⟩, ?_⟩
  exact ⟨((BitVec.ofInt 64 x0.Seq_) <<< (1 : Nat)), _, _, rfl, hI, h⟩
 ·
  replace h := h.2 hc7_
  refine W_skip ?_
  refine then_n (k5 _ _ ?_)
  clear k5 K5
  refine W_seq_k fun K9 k9 => ?_
  refine W_region [12, 13, 4] rfl (Ops_step (R_move rfl) rfl rfl (Ops_step (R_or rfl rfl (or64 ((BitVec.ofInt 64 x0.Seq_) <<< (1 : Nat)) (1#64))) rfl rfl (Ops_step (R_assign rfl) rfl rfl ?_)))
  refine Ops_nil ?_
  refine then_n (k9 _ _ ?_)
  clear k9 K9
  refine W_ret ?_
  refine ⟨_, ⟨_, _, rfl, rfl, rfl⟩, ?_⟩
  exact ⟨(((BitVec.ofInt 64 x0.Seq_) <<< (1 : Nat)) ||| (1#64)), _, _, rfl, hI, h⟩

theorem frame_Fits_ok {G : Gh} {w : World} (hS : St G w) (hg : GL G) {l0 : List Value} {x0 : api_Frame} (hr0 : Rp.cs G x0 l0) {Q : Int → Prop} (h : frame_Fits x0 Q) : Calls Tryd.prog 24 #[.agg l0.toArray] w fun e w2 => ∃ (r0 : Int) (L H : Gh), e = .returned (vi r0) ∧ Inv [] G w L H w2 ∧ Q r0 := by
 unfold frame_Fits at h
 have hI := Inv.start (M := []) hS
 refine calls_W 41 Tryd.func24 rfl Tryd.ntmps24 rfl [.tmp 2] rfl ?_
 obtain ⟨A0_1, c0_1, rfl, ⟨hc0_1, hs0_1⟩⟩ := hr0
 refine W_seq_k fun K1 k1 => ?_
 refine W_region [1, 2] rfl ?_
 have hI0_ := hI
 refine Ops_to (R_box rfl) rfl rfl ?_
 rintro _ w2_ ⟨b2_, rfl, hb2_, hB2_, hF2_⟩
 replace hI := hI.fr0 hF2_
 have ht2_ : Tok G _ b2_ 32 ([vi x0.Conn_, vi x0.Seq_, vi x0.Ack_, .slice A0_1 x0.Body_.length c0_1]) := ⟨hB2_.to rfl, Out.ge hI0_.st (Nat.le_of_eq hb2_.symm)⟩
 have hge_b2_ : w.heap.size ≤ b2_ := hb2_ ▸ hI0_.size
 clear hB2_ hb2_ hI0_ hF2_
 refine Ops_step (R_assign rfl) rfl rfl ?_
 refine Ops_nil ?_
 refine then_n (k1 _ _ ?_)
 clear k1 K1
 refine ex_ h fun J3_ hr3_ h => ?_
 refine W_seq_join [1] [] (fun vals_ w2 => ∃  (L H : Gh), vals_ = [] ∧ J3_ ∧ Inv [] G w L H w2 ∧ Le Gh.no L ∧ Le G H ∧ Tok H w2 b2_ 32 ([vi x0.Conn_, vi x0.Seq_, vi x0.Ack_, .slice A0_1 x0.Body_.length c0_1]) ∧ True) (fun B_ b_ => ?_) (fun B_ b_ => ?_)
 ·
  simp only [e_, Nat.reduceAdd, Nat.reduceBEq] at b_
  subst b_
  clear hr3_
  have hll3_ := Le.refl Gh.no
  have hhh3_ := Le.refl G
  refine W_seq_k fun K4 k4 => ?_
  refine W_region [5, 6, 7, 8, 9, 10, 11, 12, 13] rfl (Ops_step (R_fieldAddr fo32_0 rfl) rfl rfl ?_)
  refine Ops_step (R_loadB (v := vi x0.Conn_) ag3 rfl ht2_.blk rfl) rfl rfl ?_
  refine Ops_step (R_fieldAddr fo32_1 rfl) rfl rfl ?_
  refine Ops_step (R_loadB (v := vi x0.Seq_) ag3 rfl ht2_.blk rfl) rfl rfl ?_
  refine Ops_step (R_fieldAddr fo32_2 rfl) rfl rfl ?_
  refine Ops_step (R_loadB (v := vi x0.Ack_) ag3 rfl ht2_.blk rfl) rfl rfl ?_
  refine Ops_to (R_buildSlice el56 zr3 (by decide) (by decide) rfl rfl) rfl rfl ?_
  rintro _ w5_ ⟨b5_, rfl, hb5_, hB5_, hF5_⟩
  have ho5_ : OwnS w.heap.size 3 Gh.no G _ (some ⟨b5_, 0, none⟩) 3 ([x0.Conn_, x0.Seq_, x0.Ack_] : List Int) := OwnS.ofBlk hI.st hb5_ hB5_ (all2_sc' _) rfl (by have := hI.size; omega) (by show 3 ≤ maxLen; decide)
  replace hI := hI.fr0 hF5_
  replace ht2_ := ht2_.fr0 hF5_
  clear hF5_ hB5_
  refine Ops_step (R_len Tryd.underlying56 rfl rfl) rfl rfl (Ops_step (R_move rfl) rfl rfl ?_)
  refine Ops_nil ?_
  refine then_n (k4 _ _ ?_)
  clear k4 K4
  refine W_keepB [1, 11, 12, 13] fun B_ b_ => ?_
  simp only [e_, Nat.reduceAdd, Nat.reduceBEq] at b_
  subst b_
  refine W_block ?_
  refine Exists.elim h fun I7_ h => Exists.elim h fun n7_ h => ?_
  have h0_ := h.1
  have hs7_ := h.2
  clear h
  refine W_loopB [1, 11, 12] [13] (fun m vals_ w2 => ∃ (x13_7 : Int) (L H : Gh), vals_ = [vi x13_7] ∧ I7_ m x13_7 ∧ Inv [] G w L H w2 ∧ Le Gh.no L ∧ Le G H ∧ Tok H w2 b2_ 32 ([vi x0.Conn_, vi x0.Seq_, vi x0.Ack_, .slice A0_1 x0.Body_.length c0_1]) ∧ OwnS w.heap.size 3 Gh.no H w2 (some ⟨b5_, 0, none⟩) 3 ([x0.Conn_, x0.Seq_, x0.Ack_] : List Int) ∧ True) n7_ _ rfl ⟨0, _, _, rfl, h0_, hI, Le.refl _, Le.refl _, ht2_, ho5_, trivial⟩ fun B_ b_ => ?_
  clear h0_
  simp only [e_, Nat.reduceAdd, Nat.reduceBEq] at b_
  subst b_
  clear ht2_
  clear ho5_
  rintro m7_ _ w7_ ⟨x13_7, L7_, H7_, rfl, hJ7_, hI7_, hll7_, hhh7_, ht2_, ho5_, -⟩
  replace hI := hI7_
  clear hI7_
  have h := hs7_ m7_ x13_7 hJ7_
  clear hs7_ hJ7_
  replace hs0_1 := hs0_1.up hhh7_
  replace hll3_ := hll3_.trans hll7_
  replace hhh3_ := hhh3_.trans hhh7_
  refine W_seq_k fun K8 k8 => ?_
  refine W_region [14] rfl (Ops_step (R_lss rfl rfl) rfl rfl ?_)
  refine Ops_nil ?_
  refine then_n (k8 _ _ ?_)
  clear k8 K8
  refine W_seq_k fun K9 k9 => ?_
  refine W_if rfl (fun hc10_ => ?_) (fun hc10_ => ?_)
  ·
   replace h := h.1 hc10_
   refine W_skip ?_
   refine then_n (k9 _ _ ?_)
   clear k9 K9
   refine W_seq_k fun K11 k11 => ?_
   refine W_block ?_
   refine W_seq_k fun K12 k12 => ?_
   refine W_region [15, 16, 4] rfl ?_
   refine ex_ h fun x13_ hx13_ h => ?_
   have ha13_ := (ho5_.atS hx13_).1
   refine Ops_step (R_indexSl Tryd.underlying56 sz3 rfl rfl hx13_.1 hx13_.lt ha13_) rfl rfl (Ops_step (R_load ag3 rfl (ho5_.atS hx13_).2) rfl rfl (Ops_step (R_assign rfl) rfl rfl ?_))
   refine Ops_nil ?_
   refine then_n (k12 _ _ ?_)
   clear k12 K12
   refine ex_ h fun J14_ hr14_ h => ?_
   refine W_seq_join [1, 11, 12, 13] [22] (fun vals_ w2 => ∃ (x22_14 : Bool) (L H : Gh), vals_ = [.bool x22_14] ∧ J14_ x22_14 ∧ Inv [] G w L H w2 ∧ Le L7_ L ∧ Le H7_ H ∧ Tok H w2 b2_ 32 ([vi x0.Conn_, vi x0.Seq_, vi x0.Ack_, .slice A0_1 x0.Body_.length c0_1]) ∧ OwnS w.heap.size 3 Gh.no H w2 (some ⟨b5_, 0, none⟩) 3 ([x0.Conn_, x0.Seq_, x0.Ack_] : List Int) ∧ True) (fun B_ b_ => ?_) (fun B_ b_ => ?_)
   ·
    simp only [e_, Nat.reduceAdd, Nat.reduceBEq] at b_
    subst b_
    clear hr14_
    have hll14_ := Le.refl L7_
    have hhh14_ := Le.refl H7_
    refine W_region [17, 18, 19, 20, 21, 22] rfl (Ops_step (R_move rfl) rfl rfl (Ops_step (R_lss rfl rfl) rfl rfl (Ops_step (R_move rfl) rfl rfl ?_)))
    refine Ops_split 19 rfl (fun hg15_ => ?_) (fun hg15_ => ?_)
    ·
     replace h := h.1 hg15_
     refine Ops_pass rfl rfl (Ops_pass rfl rfl (Ops_step (R_pick_true rfl rfl) rfl rfl ?_))
     refine Ops_nil ?_
     refine then_n ?_
     exact ⟨_, rfl, ⟨true, _, _, rfl, h, hI, hll14_, hhh14_, ht2_, ho5_, trivial⟩, ⟨rfl, rfl, rfl, rfl, trivial⟩⟩
    ·
     replace h := h.2 hg15_
     refine Ops_step (R_move rfl) rfl rfl (Ops_step (R_gtr rfl rfl) rfl rfl (Ops_step (R_pick_false rfl rfl) rfl rfl ?_))
     refine Ops_nil ?_
     refine then_n ?_
     exact ⟨_, rfl, ⟨(decide (x13_ > 1099511627776)), _, _, rfl, h, hI, hll14_, hhh14_, ht2_, ho5_, trivial⟩, ⟨rfl, rfl, rfl, rfl, trivial⟩⟩
   ·
    simp only [e_, Nat.reduceAdd, Nat.reduceBEq] at b_
    subst b_
    clear h
    clear ht2_
    clear ho5_
    rintro _ w14_ ⟨x22_14, L14_, H14_, rfl, hJ14_, hI14_, hll14_, hhh14_, ht2_, ho5_, -⟩
    replace hI := hI14_
    clear hI14_
    have h := hr14_ x22_14 hJ14_
    clear hr14_ hJ14_
    replace hs0_1 := hs0_1.up hhh14_
    replace hll3_ := hll3_.trans hll14_
    replace hhh3_ := hhh3_.trans hhh14_
    replace hll7_ := hll7_.trans hll14_
    replace hhh7_ := hhh7_.trans hhh14_
    refine W_cond rfl (fun hc16_ => ?_) (fun hc16_ => ?_)
    ·
     replace h := h.1 hc16_
     refine W_seq_k fun K17 k17 => ?_
     refine W_region [2] rfl (Ops_step (R_assign rfl) rfl rfl ?_)
     refine Ops_nil ?_
     refine then_n (k17 _ _ ?_)
     clear k17 K17
     refine W_ret ?_
     refine block_ret ?_
     refine then_ret ?_
     clear k11 K11
     refine then_ret ?_
     refine block_ret ?_
     refine then_ret ?_
     refine ⟨_, ⟨_, _, rfl, rfl, rfl⟩, ?_⟩
     exact ⟨120, _, _, rfl, hI, h⟩
    ·
     replace h := h.2 hc16_
     refine W_skip ?_
     refine block_n ?_
     refine then_n (k11 _ _ ?_)
     clear k11 K11
     refine W_region [23, 13] rfl ?_
     have hk18_ := h.1
     replace h := h.2
     refine Ops_step (R_add rfl rfl (wI hk18_.1 hk18_.2)) rfl rfl (Ops_step (R_move rfl) rfl rfl ?_)
     refine Ops_nil ?_
     refine then_n ?_
     exact h.elim fun m_ h => ⟨m_, _, h.1, rfl, ⟨(x13_7 + 1), _, _, rfl, h.2, hI, hll7_, hhh7_, ht2_, ho5_, trivial⟩, ⟨rfl, rfl, rfl, trivial⟩⟩
  ·
   replace h := h.2 hc10_
   refine W_exit ?_
   refine then_exit ?_
   clear k9 K9
   refine then_exit ?_
   refine block_exit ?_
   refine then_n ?_
   exact ⟨_, rfl, ⟨_, _, rfl, h, hI, hll3_, hhh3_, ht2_, trivial⟩, ⟨rfl, trivial⟩⟩
 ·
  simp only [e_, Nat.reduceAdd, Nat.reduceBEq] at b_
  subst b_
  clear h
  clear ht2_
  rintro _ w3_ ⟨L3_, H3_, rfl, hJ3_, hI3_, hll3_, hhh3_, ht2_, -⟩
  replace hI := hI3_
  clear hI3_
  have h := hr3_ hJ3_
  clear hr3_ hJ3_
  replace hs0_1 := hs0_1.up hhh3_
  refine W_seq_k fun K19 k19 => ?_
  refine ex_ h fun J20_ hr20_ h => ?_
  refine W_seq_join [1] [36] (fun vals_ w2 => ∃ (x36_20 : Bool) (L H : Gh), vals_ = [.bool x36_20] ∧ J20_ x36_20 ∧ Inv [] G w L H w2 ∧ Le L3_ L ∧ Le H3_ H ∧ Tok H w2 b2_ 32 ([vi x0.Conn_, vi x0.Seq_, vi x0.Ack_, .slice A0_1 x0.Body_.length c0_1]) ∧ True) (fun B_ b_ => ?_) (fun B_ b_ => ?_)
  ·
   simp only [e_, Nat.reduceAdd, Nat.reduceBEq] at b_
   subst b_
   clear hr20_
   have hll20_ := Le.refl L3_
   have hhh20_ := Le.refl H3_
   refine W_region [24, 25, 26, 27, 28, 29, 30, 31, 32, 33, 34, 35, 36] rfl (Ops_step (R_fieldAddr fo32_0 rfl) rfl rfl ?_)
   refine Ops_step (R_loadB (v := vi x0.Conn_) ag3 rfl ht2_.blk rfl) rfl rfl ?_
   refine Ops_step (R_eql rfl rfl) rfl rfl (Ops_step (R_move rfl) rfl rfl ?_)
   refine Ops_split 27 rfl (fun hg21_ => ?_) (fun hg21_ => ?_)
   ·
    replace h := h.1 hg21_
    refine Ops_pass rfl rfl (Ops_pass rfl rfl (Ops_pass rfl rfl (Ops_pass rfl rfl (Ops_pass rfl rfl ?_))))
    refine Ops_pass rfl rfl (Ops_pass rfl rfl (Ops_pass rfl rfl (Ops_step (R_pick_true rfl rfl) rfl rfl ?_)))
    refine Ops_nil ?_
    refine then_n ?_
    exact ⟨_, rfl, ⟨true, _, _, rfl, h, hI, hll20_, hhh20_, ht2_, trivial⟩, ⟨rfl, trivial⟩⟩
   ·
    replace h := h.2 hg21_
    refine Ops_step (R_fieldAddr fo32_1 rfl) rfl rfl ?_
    refine Ops_step (R_loadB (v := vi x0.Seq_) ag3 rfl ht2_.blk rfl) rfl rfl ?_
    refine Ops_step (R_eql rfl rfl) rfl rfl (Ops_step (R_fieldAddr fo32_3 rfl) rfl rfl ?_)
    refine Ops_step (R_loadB (v := .slice A0_1 x0.Body_.length c0_1) ag30 rfl ht2_.blk rfl) rfl rfl ?_
    refine Ops_step (R_len Tryd.underlying30 rfl rfl) rfl rfl (Ops_step (R_eql rfl rfl) rfl rfl (Ops_step (R_boolNe Tryd.underlying4 rfl rfl) rfl rfl (Ops_step (R_pick_false rfl rfl) rfl rfl ?_)))
    refine Ops_nil ?_
    refine then_n ?_
    exact ⟨_, rfl, ⟨(!((decide (x0.Seq_ = 0)) == (decide ((x0.Body_.length : Int) = 0)))), _, _, rfl, h, hI, hll20_, hhh20_, ht2_, trivial⟩, ⟨rfl, trivial⟩⟩
  ·
   simp only [e_, Nat.reduceAdd, Nat.reduceBEq] at b_
   subst b_
   clear h
   clear ht2_
   rintro _ w20_ ⟨x36_20, L20_, H20_, rfl, hJ20_, hI20_, hll20_, hhh20_, ht2_, -⟩
   replace hI := hI20_
   clear hI20_
   have h := hr20_ x36_20 hJ20_
   clear hr20_ hJ20_
   replace hs0_1 := hs0_1.up hhh20_
   refine W_cond rfl (fun hc22_ => ?_) (fun hc22_ => ?_)
   ·
    replace h := h.1 hc22_
    refine W_seq_k fun K23 k23 => ?_
    refine W_region [2] rfl (Ops_step (R_assign rfl) rfl rfl ?_)
    refine Ops_nil ?_
    refine then_n (k23 _ _ ?_)
    clear k23 K23
    refine W_ret ?_
    refine then_ret ?_
    clear k19 K19
    refine ⟨_, ⟨_, _, rfl, rfl, rfl⟩, ?_⟩
    exact ⟨120, _, _, rfl, hI, h⟩
   ·
    replace h := h.2 hc22_
    refine W_skip ?_
    refine then_n (k19 _ _ ?_)
    clear k19 K19
    refine W_seq_k fun K24 k24 => ?_
    refine W_seq_k fun K25 k25 => ?_
    refine W_region [37, 38, 39, 40] rfl (Ops_step (R_fieldAddr fo32_3 rfl) rfl rfl ?_)
    refine Ops_step (R_loadB (v := .slice A0_1 x0.Body_.length c0_1) ag30 rfl ht2_.blk rfl) rfl rfl ?_
    refine Ops_step (R_len Tryd.underlying30 rfl rfl) rfl rfl (Ops_step (R_gtr rfl rfl) rfl rfl ?_)
    refine Ops_nil ?_
    refine then_n (k25 _ _ ?_)
    clear k25 K25
    refine W_if rfl (fun hc26_ => ?_) (fun hc26_ => ?_)
    ·
     replace h := h.1 hc26_
     refine W_seq_k fun K27 k27 => ?_
     refine W_region [2] rfl (Ops_step (R_assign rfl) rfl rfl ?_)
     refine Ops_nil ?_
     refine then_n (k27 _ _ ?_)
     clear k27 K27
     refine W_keepB [2] fun B_ b_ => ?_
     simp only [e_, Nat.reduceAdd, Nat.reduceBEq] at b_
     subst b_
     refine W_ret ?_
     refine then_ret ?_
     clear k24 K24
     refine ⟨_, ⟨_, _, rfl, rfl, rfl⟩, ?_⟩
     exact ⟨4, _, _, rfl, hI, h⟩
    ·
     replace h := h.2 hc26_
     refine W_skip ?_
     refine then_n (k24 _ _ ?_)
     clear k24 K24
     refine W_keepB [] fun B_ b_ => ?_
     simp only [e_, Nat.reduceAdd, Nat.reduceBEq] at b_
     subst b_
     refine W_seq_k fun K30 k30 => ?_
     refine W_region [2] rfl (Ops_step (R_assign rfl) rfl rfl ?_)
     refine Ops_nil ?_
     refine then_n (k30 _ _ ?_)
     clear k30 K30
     refine W_ret ?_
     refine ⟨_, ⟨_, _, rfl, rfl, rfl⟩, ?_⟩
     exact ⟨0, _, _, rfl, hI, h⟩

theorem frame_Wrap_ok {G : Gh} {w : World} (hS : St G w) (hg : GL G) {A0 : Option Addr} {c0 : Nat} {x0 : List UInt8} (hc0 : x0.length ≤ c0) (hs0 : Sl G A0 x0) {x1 : Bool} {l2 : List Value} {x2 : api_Frame} (hr2 : Rp.cs G x2 l2) {Q : (List UInt8) → Int → Prop} (h : frame_Wrap x0 x1 x2 Q) : Calls Tryd.prog 30 #[.slice A0 x0.length c0, .bool x1, .agg l2.toArray] w fun e w2 => ∃ (A0 : Option Addr) (c0 : Nat) (r0 : List UInt8) (r1 : Int) (L H : Gh), e = .returned (.tuple #[.slice A0 r0.length c0, vi r1]) ∧ Inv [] G w L H w2 ∧ r0.length ≤ c0 ∧ Sl L A0 r0 ∧ Q r0 r1 := by
 unfold frame_Wrap at h
 have hI := Inv.start (M := []) hS
 refine calls_W 37 Tryd.func30 rfl Tryd.ntmps30 rfl [.tmp 6, .tmp 7] rfl ?_
 obtain ⟨A2_1, c2_1, rfl, ⟨hc2_1, hs2_1⟩⟩ := hr2
 refine W_seq_k fun K1 k1 => ?_
 refine W_region [5, 6, 7] rfl ?_
 have hI0_ := hI
 refine Ops_to (R_box rfl) rfl rfl ?_
 rintro _ w2_ ⟨b2_, rfl, hb2_, hB2_, hF2_⟩
 replace hI := hI.fr0 hF2_
 have ht2_ : Tok G _ b2_ 32 ([vi x2.Conn_, vi x2.Seq_, vi x2.Ack_, .slice A2_1 x2.Body_.length c2_1]) := ⟨hB2_.to rfl, Out.ge hI0_.st (Nat.le_of_eq hb2_.symm)⟩
 have hge_b2_ : w.heap.size ≤ b2_ := hb2_ ▸ hI0_.size
 clear hB2_ hb2_ hI0_ hF2_
 refine Ops_step (R_assign rfl) rfl rfl (Ops_step (R_assign rfl) rfl rfl ?_)
 refine Ops_nil ?_
 refine then_n (k1 _ _ ?_)
 clear k1 K1
 refine W_seq_k fun K3 k3 => ?_
 refine W_seq_k fun K4 k4 => ?_
 refine W_region [12, 13, 8] rfl (Ops_step (R_loadN ag32 sz32 rfl ht2_.blk (Nat.le_of_ble_eq_true rfl)) rfl rfl ?_)
 refine Ops_call (C_func bd24 rfl) rfl rfl ?_
 refine (frame_Fits_ok (x0 := x2) hI.st (hg.up hI.le) ⟨A2_1, c2_1, rfl, ⟨hc2_1, hs2_1⟩⟩ h).mono ?_
 rintro _ w5_ ⟨r5_0, L5_, H5_, rfl, hI5_, h⟩
 refine Exists.elim (hI.call hI5_ (by simp)) fun L50_ h5_ => ?_
 have hz5_ := hI.size
 replace hI := h5_.1
 have u5_ := h5_.2.1
 have hl5_ := h5_.2.2
 clear h5_
 replace hs0 := hs0.up u5_.hh
 replace hs2_1 := hs2_1.up u5_.hh
 replace ht2_ := ht2_.up u5_ (by simp)
 clear hI5_ u5_ hl5_
 refine ⟨_, rfl, ?_⟩
 refine Ops_step (R_assign rfl) rfl rfl ?_
 refine Ops_nil ?_
 refine then_n (k4 _ _ ?_)
 clear k4 K4
 refine W_seq_k fun K6 k6 => ?_
 refine W_region [14, 15] rfl (Ops_step (R_move rfl) rfl rfl (Ops_step (R_neq rfl rfl) rfl rfl ?_))
 refine Ops_nil ?_
 refine then_n (k6 _ _ ?_)
 clear k6 K6
 refine W_keepB [0, 1, 5, 8, 15] fun B_ b_ => ?_
 simp only [e_, Nat.reduceAdd, Nat.reduceBEq] at b_
 subst b_
 refine W_if rfl (fun hc8_ => ?_) (fun hc8_ => ?_)
 ·
  replace h := h.1 hc8_
  refine W_seq_k fun K9 k9 => ?_
  refine W_region [16, 6, 7] rfl (Ops_step (R_move rfl) rfl rfl (Ops_step (R_assign rfl) rfl rfl (Ops_step (R_assign rfl) rfl rfl ?_)))
  refine Ops_nil ?_
  refine then_n (k9 _ _ ?_)
  clear k9 K9
  refine W_keepB [6, 7] fun B_ b_ => ?_
  simp only [e_, Nat.reduceAdd, Nat.reduceBEq] at b_
  subst b_
  refine W_ret ?_
  refine then_ret ?_
  clear k3 K3
  refine ⟨_, ⟨_, _, rfl, rfl, ⟨_, _, rfl, rfl, rfl⟩⟩, ?_⟩
  exact ⟨none, 0, [], r5_0, _, _, rfl, hI, (Nat.le_refl 0), Sl.nil, h⟩
 ·
  replace h := h.2 hc8_
  refine W_skip ?_
  refine then_n (k3 _ _ ?_)
  clear k3 K3
  refine W_seq_k fun K11 k11 => ?_
  refine W_region [17, 18, 9] rfl (Ops_step (R_loadN ag32 sz32 rfl ht2_.blk (Nat.le_of_ble_eq_true rfl)) rfl rfl ?_)
  refine Ops_call (C_func bd58 rfl) rfl rfl ?_
  refine (frame_head_ok (x0 := x2) hI.st (hg.up hI.le) ⟨A2_1, c2_1, rfl, ⟨hc2_1, hs2_1⟩⟩ h).mono ?_
  rintro _ w12_ ⟨A12_0, c12_0, r12_0, L12_, H12_, rfl, hI12_, ho12_0, h⟩
  refine Exists.elim (hI.call hI12_ (by simp)) fun L120_ h12_ => ?_
  have hz12_ := hI.size
  replace hI := h12_.1
  have u12_ := h12_.2.1
  have hl12_ := h12_.2.2
  clear h12_
  replace hs0 := hs0.up u12_.hh
  replace hs2_1 := hs2_1.up u12_.hh
  replace ht2_ := ht2_.up u12_ (by simp)
  replace ho12_0 := OwnS.backS ho12_0 hz12_ (Le.refl _)
  clear hI12_ u12_ hl12_
  refine ⟨_, rfl, ?_⟩
  refine Exists.elim (ho12_0.freeze hI) fun L13_ h13_ => Exists.elim h13_ fun H13_ h13_ => ?_
  replace hI := h13_.1
  have u13_ := h13_.2.1
  have hs13_ := h13_.2.2.1 (Le.no _)
  have hc13_ := ho12_0.cap
  replace hs0 := hs0.up u13_.hh
  replace hs2_1 := hs2_1.up u13_.hh
  replace ht2_ := ht2_.up u13_ (ht2_.sep ho12_0 (by decide))
  clear h13_ u13_ ho12_0
  refine Ops_step (R_assign rfl) rfl rfl ?_
  refine Ops_nil ?_
  refine then_n (k11 _ _ ?_)
  clear k11 K11
  refine W_seq_k fun K14 k14 => ?_
  refine W_drawF [20, 21, 22, 23, 24, 25, 26, 27, 19, 28, 29, 10, 11] [(0, true), (1, true), (2, true), (4, true), (5, true), (6, true), (3, false), (7, false), (8, true), (9, true), (10, true), (11, true), (12, true)] TFtG.hm rfl (by kernel_rfl) fun ops15_ w15_ hops15_ hF15_ => ?_
  replace hI := hI.fr0 hF15_
  replace ht2_ := ht2_.fr0 hF15_
  clear hF15_
  refine HSp (R_move rfl) rfl rfl ?_
  refine HS_loadN ag32 sz32 rfl ht2_.blk (Nat.le_of_ble_eq_true rfl) rfl rfl ?_
  refine HSp (R_move rfl) rfl rfl (HSp (R_move rfl) rfl rfl (HSp (R_fieldAddr fo32_3 rfl) rfl rfl ?_))
  refine HS_loadB (v := .slice A2_1 x2.Body_.length c2_1) ag30 rfl ht2_.blk rfl rfl rfl ?_
  refine HS_call [6] _ rfl (by rw [hops15_]; kernel_rfl) (C_func bd49 rfl) rfl rfl ?_
  refine (frame_once_ok (x0 := x2) (x1 := x1) hI.st (hg.up hI.le) ⟨A2_1, c2_1, rfl, ⟨hc2_1, hs2_1⟩⟩ h).mono ?_
  rintro _ w16_ ⟨r16_0, L16_, H16_, rfl, hI16_, h⟩
  refine Exists.elim (hI.call hI16_ (by simp)) fun L160_ h16_ => ?_
  have hz16_ := hI.size
  replace hI := h16_.1
  have u16_ := h16_.2.1
  have hl16_ := h16_.2.2
  clear h16_
  replace hs0 := hs0.up u16_.hh
  replace hs2_1 := hs2_1.up u16_.hh
  replace ht2_ := ht2_.up u16_ (by simp)
  replace hs13_ := hs13_.up u16_.ll
  clear hI16_ u16_ hl16_
  refine ⟨_, rfl, ⟨(ht2_.blk.at_ rfl), trivial⟩, ?_⟩
  refine HS_call [] _ rfl (by rw [hops15_]; kernel_rfl) (C_func bd59 rfl) rfl rfl ?_
  refine (cipher_Seal_ok (x0 := x0) (x1 := r16_0) (x2 := r12_0) (x3 := x2.Body_) hI.st (hg.up hI.le) hc0 hs0 hc13_ (hs13_.up hI.sub) hc2_1 hs2_1 h).mono ?_
  rintro _ w17_ ⟨A17_0, c17_0, r17_0, r17_1, L17_, H17_, rfl, hI17_, ho17_0, h⟩
  refine Exists.elim (hI.call hI17_ (by simp)) fun L170_ h17_ => ?_
  have hz17_ := hI.size
  replace hI := h17_.1
  have u17_ := h17_.2.1
  have hl17_ := h17_.2.2
  clear h17_
  replace ht2_ := ht2_.up u17_ (by simp)
  replace hs13_ := hs13_.up u17_.ll
  replace ho17_0 := OwnS.backS ho17_0 hz17_ (Le.refl _)
  clear hI17_ u17_ hl17_
  refine ⟨_, rfl, trivial, ?_⟩
  refine Exists.elim (ho17_0.freeze hI) fun L18_ h18_ => Exists.elim h18_ fun H18_ h18_ => ?_
  replace hI := h18_.1
  have u18_ := h18_.2.1
  have hs18_ := h18_.2.2.1 (Le.no _)
  have hc18_ := ho17_0.cap
  replace ht2_ := ht2_.up u18_ (ht2_.sep ho17_0 (by decide))
  replace hs13_ := hs13_.up u18_.ll
  clear h18_ u18_ ho17_0
  refine HSp (R_move rfl) rfl rfl ?_
  refine HSp (R_extract (v := .slice A17_0 r17_0.length c17_0) rfl rfl) rfl rfl ?_
  refine HSp (R_extract (v := vi r17_1) rfl rfl) rfl rfl ?_
  refine HSp (R_assign rfl) rfl rfl (HSp (R_assign rfl) rfl rfl ?_)
  refine HS_nil ?_
  clear hops15_
  refine then_n (k14 _ _ ?_)
  clear k14 K14
  refine W_keepB [9, 10, 11] fun B_ b_ => ?_
  simp only [e_, Nat.reduceAdd, Nat.reduceBEq] at b_
  subst b_
  refine W_seq_k fun K20 k20 => ?_
  refine W_seq_k fun K21 k21 => ?_
  refine W_region [30, 31] rfl (Ops_step (R_move rfl) rfl rfl (Ops_step (R_neq rfl rfl) rfl rfl ?_))
  refine Ops_nil ?_
  refine then_n (k21 _ _ ?_)
  clear k21 K21
  refine W_if rfl (fun hc22_ => ?_) (fun hc22_ => ?_)
  ·
   replace h := h.1 hc22_
   refine W_seq_k fun K23 k23 => ?_
   refine W_region [32, 6, 7] rfl (Ops_step (R_move rfl) rfl rfl (Ops_step (R_assign rfl) rfl rfl (Ops_step (R_assign rfl) rfl rfl ?_)))
   refine Ops_nil ?_
   refine then_n (k23 _ _ ?_)
   clear k23 K23
   refine W_keepB [6, 7] fun B_ b_ => ?_
   simp only [e_, Nat.reduceAdd, Nat.reduceBEq] at b_
   subst b_
   refine W_ret ?_
   refine then_ret ?_
   clear k20 K20
   refine ⟨_, ⟨_, _, rfl, rfl, ⟨_, _, rfl, rfl, rfl⟩⟩, ?_⟩
   exact ⟨none, 0, [], r17_1, _, _, rfl, hI, (Nat.le_refl 0), Sl.nil, h⟩
  ·
   replace h := h.2 hc22_
   refine W_skip ?_
   refine then_n (k20 _ _ ?_)
   clear k20 K20
   refine W_seq_k fun K25 k25 => ?_
   refine W_region [33, 34, 35, 36, 6, 7] rfl (Ops_step (R_move rfl) rfl rfl (Ops_step (R_move rfl) rfl rfl ?_))
   refine Ops_to (R_buildSlice el99 zr30 (by decide) (by decide) rfl rfl) rfl rfl ?_
   rintro _ w26_ ⟨b26_, rfl, hb26_, hB26_, hF26_⟩
   have ho26_ : OwnS w.heap.size 30 L18_ H18_ _ (some ⟨b26_, 0, none⟩) 2 ([r12_0, r17_0] : List (List UInt8)) := OwnS.ofBlk (css := [[.slice A12_0 r12_0.length c12_0], [.slice A17_0 r17_0.length c17_0]]) hI.st hb26_ hB26_ (.cons ⟨A12_0, c12_0, rfl, hc13_, hs13_⟩ (.cons ⟨A17_0, c17_0, rfl, hc18_, hs18_⟩ .nil)) rfl (by have := hI.size; omega) (by show 2 ≤ maxLen; decide)
   replace hI := hI.fr0 hF26_
   clear hF26_ hB26_
   refine Exists.elim (ho26_.lend hI.st hI.sub) fun Hb27_0_ hb27_0_ => ?_
   refine Ops_call (C_func bd60 rfl) rfl rfl ?_
   refine (slices_Concat_ok (x0 := ([r12_0, r17_0] : List (List UInt8))) hb27_0_.1 (hg.up (hI.le.trans hb27_0_.2.1)) (Nat.le_refl _) hb27_0_.2.2 h).mono ?_
   rintro _ w27_ ⟨A27_0, c27_0, r27_0, L27_, H27_, rfl, hI27_, hc27_0, hs27_0, h⟩
   refine Exists.elim (hI.callB hb27_0_.2.1 hI27_ (by simp)) fun L270_ h27_ => Exists.elim h27_ fun H270_ h27_ => ?_
   have hz27_ := hI.size
   replace hI := h27_.1
   have u27_ := h27_.2.1
   have hl27_ := h27_.2.2.1
   have hh27_ := h27_.2.2.2
   clear h27_
   replace hs27_0 := hs27_0.up hl27_
   clear hI27_ u27_ hl27_
   refine ⟨_, rfl, ?_⟩
   refine Ops_step (R_assign rfl) rfl rfl (Ops_step (R_assign rfl) rfl rfl ?_)
   refine Ops_nil ?_
   refine then_n (k25 _ _ ?_)
   clear k25 K25
   refine W_keepB [6, 7] fun B_ b_ => ?_
   simp only [e_, Nat.reduceAdd, Nat.reduceBEq] at b_
   subst b_
   refine W_ret ?_
   refine ⟨_, ⟨_, _, rfl, rfl, ⟨_, _, rfl, rfl, rfl⟩⟩, ?_⟩
   exact ⟨A27_0, c27_0, r27_0, 0, _, _, rfl, hI, hc27_0, hs27_0, h⟩

theorem frame_Peek_ok {G : Gh} {w : World} (hS : St G w) (hg : GL G) {A0 : Option Addr} {c0 : Nat} {x0 : List UInt8} (hc0 : x0.length ≤ c0) (hs0 : Sl G A0 x0) {Q : api_Frame → Int → Prop} (h : frame_Peek x0 Q) : Calls Tryd.prog 18 #[.slice A0 x0.length c0] w fun e w2 => ∃ (l0 : List Value) (r0 : api_Frame) (r1 : Int) (L H : Gh), e = .returned (.tuple #[.agg l0.toArray, vi r1]) ∧ Inv [] G w L H w2 ∧ Rp.cs L r0 l0 ∧ Q r0 r1 := by
 unfold frame_Peek at h
 have hI := Inv.start (M := []) hS
 refine calls_W 43 Tryd.func18 rfl Tryd.ntmps18 rfl [.cell 2 32, .tmp 3] rfl ?_
 refine W_seq_k fun K1 k1 => ?_
 refine W_region [2, 3] rfl ?_
 have hI0_ := hI
 refine Ops_to (R_alloc zr32) rfl rfl ?_
 rintro _ w2_ ⟨b2_, rfl, hb2_, hB2_, hF2_⟩
 replace hI := hI.fr0 hF2_
 have ht2_ : Tok G _ b2_ 32 ([vi 0, vi 0, vi 0, .slice none 0 0]) := ⟨hB2_.to rfl, Out.ge hI0_.st (Nat.le_of_eq hb2_.symm)⟩
 have hge_b2_ : w.heap.size ≤ b2_ := hb2_ ▸ hI0_.size
 clear hB2_ hb2_ hI0_ hF2_
 refine Ops_step (R_assign rfl) rfl rfl ?_
 refine Ops_nil ?_
 refine then_n (k1 _ _ ?_)
 clear k1 K1
 refine W_seq_k fun K3 k3 => ?_
 refine W_region [6, 7, 8, 9, 10, 11, 4] rfl (Ops_step (R_move rfl) rfl rfl (Ops_step (R_move rfl) rfl rfl (Ops_step (R_len Tryd.underlying30 rfl rfl) rfl rfl (Ops_step (R_min rfl rfl _root_.rfl) rfl rfl ?_))))
 have hk5_ := h.1
 replace h := h.2
 have hk6_ := h.1
 replace h := h.2
 refine Exists.elim (cut_ex (n := 1) (l := 0) (h := (min (x0.length : Int) 24)) hs0 rfl (by decide) hc0 (Int.le_refl 0) hk5_ hk6_) fun A4_ h4_ => Exists.elim h4_ fun c4_ h4_ => ?_
 have hr4_ := h4_.1
 have hc4_ := h4_.2.1
 have hs4_ := h4_.2.2
 clear h4_
 refine Ops_step (X_slice (xs := x0) Tryd.underlying30 sz5 rfl hr4_ hc0 rfl rfl (Int.le_refl 0) hk5_ hk6_) rfl rfl ?_
 clear hr4_
 refine Ops_call (C_func bd44 rfl) rfl rfl ?_
 refine (octet_Read_ok (x0 := (cut x0 0 (min (x0.length : Int) 24))) hI.st (hg.up hI.le) hc4_ hs4_ h).mono ?_
 rintro _ w7_ ⟨d7_0, r7_0, L7_, H7_, rfl, hI7_, hge_d7_0, hr7_0, h⟩
 have hge0_7 := hge_d7_0
 replace hge_d7_0 := Nat.le_trans hI.size hge_d7_0
 refine Exists.elim (hI.call hI7_ (by simp)) fun L70_ h7_ => ?_
 have hz7_ := hI.size
 replace hI := h7_.1
 have u7_ := h7_.2.1
 have hl7_ := h7_.2.2
 clear h7_
 replace hs0 := hs0.up u7_.hh
 replace ht2_ := ht2_.up u7_ (by simp)
 replace hr7_0 := hr7_0.back hl7_ (Le.refl _)
 obtain ⟨l7_0_, hl7_0_, ht7_0⟩ := hr7_0
 obtain ⟨A7_0_1, c7_0_1, rfl, ⟨hc7_0_1, hs7_0_1⟩⟩ := hl7_0_
 clear hI7_ u7_ hl7_
 refine ⟨_, rfl, ?_⟩
 refine Ops_step (R_assign rfl) rfl rfl ?_
 refine Ops_nil ?_
 refine then_n (k3 _ _ ?_)
 clear k3 K3
 refine W_keepB [0, 2, 4] fun B_ b_ => ?_
 simp only [e_, Nat.reduceAdd, Nat.reduceBEq] at b_
 subst b_
 refine W_seq_k fun K9 k9 => ?_
 refine W_region [12, 13, 14, 15, 16, 17, 18, 5, none] rfl (Ops_step (R_move rfl) rfl rfl ?_)
 refine Ops_call (C_func bd45 rfl) rfl rfl ?_
 refine (octet_Reader_Within_ok (x0 := r7_0) (x1 := 1) (x2 := 1099511627776) hI.st (hg.up hI.le) ⟨_, ⟨A7_0_1, c7_0_1, rfl, ⟨hc7_0_1, (hs7_0_1.up hI.sub)⟩⟩, ht7_0⟩ h).mono ?_
 rintro _ w10_ ⟨r10_0, y10_0, L10_, H10_, rfl, hI10_, hq10_0, h⟩
 refine Exists.elim (hI.call hI10_ (new1 hge_d7_0)) fun L100_ h10_ => ?_
 have hz10_ := hI.size
 replace hI := h10_.1
 have u10_ := h10_.2.1
 have hl10_ := h10_.2.2
 clear h10_
 replace hs0 := hs0.up u10_.hh
 replace ht2_ := ht2_.up u10_ (ht2_.apart ht7_0 (by decide))
 replace hs7_0_1 := hs7_0_1.up u10_.ll
 clear ht7_0
 obtain ⟨l10_0_, hl10_0_, ht10_0⟩ := hq10_0
 obtain ⟨A10_0_1, c10_0_1, rfl, ⟨hc10_0_1, hs10_0_1⟩⟩ := hl10_0_
 clear hI10_ u10_ hl10_
 refine ⟨_, rfl, ?_⟩
 refine Ops_step (R_move rfl) rfl rfl ?_
 refine Ops_call (C_func bd45 rfl) rfl rfl ?_
 refine (octet_Reader_Within_ok (x0 := y10_0) (x1 := 0) (x2 := 1099511627776) hI.st (hg.up hI.le) ⟨_, ⟨A10_0_1, c10_0_1, rfl, ⟨hc10_0_1, hs10_0_1⟩⟩, ht10_0⟩ h).mono ?_
 rintro _ w11_ ⟨r11_0, y11_0, L11_, H11_, rfl, hI11_, hq11_0, h⟩
 refine Exists.elim (hI.call hI11_ (new1 hge_d7_0)) fun L110_ h11_ => ?_
 have hz11_ := hI.size
 replace hI := h11_.1
 have u11_ := h11_.2.1
 have hl11_ := h11_.2.2
 clear h11_
 replace hs0 := hs0.up u11_.hh
 replace ht2_ := ht2_.up u11_ (ht2_.apart ht10_0 (by decide))
 replace hs10_0_1 := hs10_0_1.up u11_.hh
 clear ht10_0
 obtain ⟨l11_0_, hl11_0_, ht11_0⟩ := hq11_0
 obtain ⟨A11_0_1, c11_0_1, rfl, ⟨hc11_0_1, hs11_0_1⟩⟩ := hl11_0_
 clear hI11_ u11_ hl11_
 refine ⟨_, rfl, ?_⟩
 refine Ops_step (R_move rfl) rfl rfl ?_
 refine Ops_call (C_func bd45 rfl) rfl rfl ?_
 refine (octet_Reader_Within_ok (x0 := y11_0) (x1 := 0) (x2 := 1099511627776) hI.st (hg.up hI.le) ⟨_, ⟨A11_0_1, c11_0_1, rfl, ⟨hc11_0_1, hs11_0_1⟩⟩, ht11_0⟩ h).mono ?_
 rintro _ w12_ ⟨r12_0, y12_0, L12_, H12_, rfl, hI12_, hq12_0, h⟩
 refine Exists.elim (hI.call hI12_ (new1 hge_d7_0)) fun L120_ h12_ => ?_
 have hz12_ := hI.size
 replace hI := h12_.1
 have u12_ := h12_.2.1
 have hl12_ := h12_.2.2
 clear h12_
 replace hs0 := hs0.up u12_.hh
 replace ht2_ := ht2_.up u12_ (ht2_.apart ht11_0 (by decide))
 replace hs11_0_1 := hs11_0_1.up u12_.hh
 clear ht11_0
 obtain ⟨l12_0_, hl12_0_, ht12_0⟩ := hq12_0
 obtain ⟨A12_0_1, c12_0_1, rfl, ⟨hc12_0_1, hs12_0_1⟩⟩ := hl12_0_
 clear hI12_ u12_ hl12_
 refine ⟨_, rfl, ?_⟩
 refine Ops_step (R_build (pl := [(0, 1), (1, 1), (2, 1)]) (cs := [vi r10_0, vi r11_0, vi r12_0, .slice none 0 0]) zr32 pl32 rfl rfl rfl) rfl rfl ?_
 have hlo13_b2_ := ht2_.blk.lt
 have hI0_ := hI
 refine Ops_to (R_alloc zr32) rfl rfl ?_
 rintro _ w13_ ⟨b13_, rfl, hb13_, hB13_, hF13_⟩
 replace hI := hI.fr0 hF13_
 replace ht2_ := ht2_.fr0 hF13_
 replace ht12_0 := ht12_0.fr0 hF13_
 have ht13_ : Tok H12_ _ b13_ 32 ([vi 0, vi 0, vi 0, .slice none 0 0]) := ⟨hB13_.to rfl, Out.ge hI0_.st (Nat.le_of_eq hb13_.symm)⟩
 have hge_b13_ : w.heap.size ≤ b13_ := hb13_ ▸ hI0_.size
 have hne13_b2_ : b2_ ≠ b13_ := fun e_ => absurd hlo13_b2_ (by omega)
 clear hB13_ hb13_ hI0_ hF13_
 refine Ops_to0 (R_storeN sz32 rfl rfl rfl ht13_.blk (Nat.le_of_ble_eq_true rfl) rfl) rfl ?_
 rintro _ w14_ ⟨hB14_, hF14_⟩
 replace hI := hI.tok hF14_ (out1 ht13_.out) (new1 hge_b13_)
 replace ht2_ := ht2_.fr hF14_ (ne1 hne13_b2_)
 replace ht12_0 := ht12_0.fr hF14_ (ht12_0.apart ht13_ (by decide))
 replace ht13_ : Tok H12_ _ b13_ 32 ([vi r10_0, vi r11_0, vi r12_0, .slice none 0 0]) := ⟨hB14_, ht13_.out⟩
 clear hF14_ hB14_
 refine Ops_nil ?_
 refine then_n (k9 _ _ ?_)
 clear k9 K9
 refine W_keepB [0, 2, 4, 5] fun B_ b_ => ?_
 simp only [e_, Nat.reduceAdd, Nat.reduceBEq] at b_
 subst b_
 refine W_seq_k fun K16 k16 => ?_
 refine ex_ h fun J17_ hr17_ h => ?_
 refine W_seq_join [2, 5] [40] (fun vals_ w2 => ∃ (x40_17 : Bool) (L H : Gh), vals_ = [.bool x40_17] ∧ J17_ x40_17 ∧ Inv [] G w L H w2 ∧ Le L120_ L ∧ Le H12_ H ∧ Tok H w2 b2_ 32 ([vi 0, vi 0, vi 0, .slice none 0 0]) ∧ Tok H w2 b13_ 32 ([vi r10_0, vi r11_0, vi r12_0, .slice none 0 0]) ∧ True) (fun B_ b_ => ?_) (fun B_ b_ => ?_)
 ·
  simp only [e_, Nat.reduceAdd, Nat.reduceBEq] at b_
  subst b_
  clear hr17_
  have hll17_ := Le.refl L120_
  have hhh17_ := Le.refl H12_
  refine W_region [19, 20, 21, 22, 23, 24, 25, 26, 27, 28, 29, 30, 31, 32, 33, 34, 35, 36, 37, 38, 39, 40] rfl (Ops_step (R_move rfl) rfl rfl ?_)
  refine Ops_call (C_func bd46 rfl) rfl rfl ?_
  refine (octet_Reader_Err_ok (x0 := y12_0) hI.st (hg.up hI.le) ⟨_, ⟨A12_0_1, c12_0_1, rfl, ⟨hc12_0_1, hs12_0_1⟩⟩, ht12_0⟩ h).mono ?_
  rintro _ w18_ ⟨r18_0, L18_, H18_, rfl, hI18_, h⟩
  refine Exists.elim (hI.call hI18_ (by simp)) fun L180_ h18_ => ?_
  have hz18_ := hI.size
  replace hI := h18_.1
  have u18_ := h18_.2.1
  have hl18_ := h18_.2.2
  clear h18_
  replace hs0 := hs0.up u18_.hh
  replace ht2_ := ht2_.up u18_ (by simp)
  replace ht13_ := ht13_.up u18_ (by simp)
  replace hll17_ := hll17_.trans u18_.ll
  replace hhh17_ := hhh17_.trans u18_.hh
  clear hI18_ u18_ hl18_
  refine ⟨_, rfl, ?_⟩
  refine Ops_step (R_neq rfl rfl) rfl rfl (Ops_step (R_move rfl) rfl rfl ?_)
  refine Ops_split 22 rfl (fun hg19_ => ?_) (fun hg19_ => ?_)
  ·
   replace h := h.1 hg19_
   refine Ops_pass rfl rfl (Ops_pass rfl rfl (Ops_pass rfl rfl (Ops_step (R_pick_true rfl rfl) rfl rfl (Ops_step (R_move rfl) rfl rfl ?_))))
   refine Ops_pass rfl rfl (Ops_pass rfl rfl (Ops_pass rfl rfl (Ops_pass rfl rfl (Ops_pass rfl rfl ?_))))
   refine Ops_pass rfl rfl (Ops_pass rfl rfl (Ops_step (R_pick_true rfl rfl) rfl rfl (Ops_step (R_move rfl) rfl rfl (Ops_pass rfl rfl ?_))))
   refine Ops_pass rfl rfl (Ops_pass rfl rfl (Ops_step (R_pick_true rfl rfl) rfl rfl ?_))
   refine Ops_nil ?_
   refine then_n ?_
   exact ⟨_, rfl, ⟨true, _, _, rfl, h, hI, hll17_, hhh17_, ht2_, ht13_, trivial⟩, ⟨rfl, rfl, trivial⟩⟩
  ·
   replace h := h.2 hg19_
   refine Ops_step (R_move rfl) rfl rfl (Ops_step (R_len Tryd.underlying30 rfl rfl) rfl rfl (Ops_step (R_lss rfl rfl) rfl rfl (Ops_step (R_pick_false rfl rfl) rfl rfl (Ops_step (R_move rfl) rfl rfl ?_))))
   refine Ops_split 27 rfl (fun hg20_ => ?_) (fun hg20_ => ?_)
   ·
    replace h := h.1 hg20_
    refine Ops_pass rfl rfl (Ops_pass rfl rfl (Ops_pass rfl rfl (Ops_pass rfl rfl (Ops_pass rfl rfl ?_))))
    refine Ops_pass rfl rfl (Ops_pass rfl rfl (Ops_step (R_pick_true rfl rfl) rfl rfl (Ops_step (R_move rfl) rfl rfl (Ops_pass rfl rfl ?_))))
    refine Ops_pass rfl rfl (Ops_pass rfl rfl (Ops_step (R_pick_true rfl rfl) rfl rfl ?_))
    refine Ops_nil ?_
    refine then_n ?_
    exact ⟨_, rfl, ⟨true, _, _, rfl, h, hI, hll17_, hhh17_, ht2_, ht13_, trivial⟩, ⟨rfl, rfl, trivial⟩⟩
   ·
    replace h := h.2 hg20_
    refine Ops_step (R_fieldAddr fo32_1 rfl) rfl rfl ?_
    refine Ops_step (R_loadB (v := vi r11_0) ag3 rfl ht13_.blk rfl) rfl rfl ?_
    refine Ops_step (R_eql rfl rfl) rfl rfl (Ops_step (R_move rfl) rfl rfl (Ops_step (R_len Tryd.underlying30 rfl rfl) rfl rfl (Ops_step (R_eql rfl rfl) rfl rfl (Ops_step (R_boolNe Tryd.underlying4 rfl rfl) rfl rfl ?_))))
    refine Ops_step (R_pick_false rfl rfl) rfl rfl (Ops_step (R_move rfl) rfl rfl ?_)
    refine Ops_splitB 36 rfl (fun hg21_ => ?_) (fun hg21_ => ?_)
    ·
     replace h := h.1 hg21_
     refine Ops_pass rfl rfl (Ops_pass rfl rfl (Ops_pass rfl rfl (Ops_step (R_pick_true rfl rfl) rfl rfl ?_)))
     refine Ops_nil ?_
     refine then_n ?_
     exact ⟨_, rfl, ⟨true, _, _, rfl, h, hI, hll17_, hhh17_, ht2_, ht13_, trivial⟩, ⟨rfl, rfl, trivial⟩⟩
    ·
     replace h := h.2 hg21_
     refine Ops_step (R_move rfl) rfl rfl (Ops_step (R_len Tryd.underlying30 rfl rfl) rfl rfl (Ops_step (R_gtr rfl rfl) rfl rfl (Ops_step (R_pick_false rfl rfl) rfl rfl ?_)))
     refine Ops_nil ?_
     refine then_n ?_
     exact ⟨_, rfl, ⟨(decide ((x0.length : Int) > 16360)), _, _, rfl, h, hI, hll17_, hhh17_, ht2_, ht13_, trivial⟩, ⟨rfl, rfl, trivial⟩⟩
 ·
  simp only [e_, Nat.reduceAdd, Nat.reduceBEq] at b_
  subst b_
  clear h
  clear ht2_
  clear ht13_
  rintro _ w17_ ⟨x40_17, L17_, H17_, rfl, hJ17_, hI17_, hll17_, hhh17_, ht2_, ht13_, -⟩
  replace hI := hI17_
  clear hI17_
  have h := hr17_ x40_17 hJ17_
  clear hr17_ hJ17_
  refine W_cond rfl (fun hc22_ => ?_) (fun hc22_ => ?_)
  ·
   replace h := h.1 hc22_
   refine W_seq_k fun K23 k23 => ?_
   refine W_region [41, none, 3] rfl ?_
   refine Ops_step (R_build (pl := []) (cs := [vi 0, vi 0, vi 0, .slice none 0 0]) zr32 pl32 rfl rfl rfl) rfl rfl ?_
   refine Ops_to0 (R_storeN sz32 rfl rfl rfl ht2_.blk (Nat.le_of_ble_eq_true rfl) rfl) rfl ?_
   rintro _ w24_ ⟨hB24_, hF24_⟩
   replace hI := hI.tok hF24_ (out1 ht2_.out) (new1 hge_b2_)
   replace ht2_ : Tok H17_ _ b2_ 32 ([vi 0, vi 0, vi 0, .slice none 0 0]) := ⟨hB24_, ht2_.out⟩
   clear hF24_ hB24_
   refine Ops_step (R_assign rfl) rfl rfl ?_
   refine Ops_nil ?_
   refine then_n (k23 _ _ ?_)
   clear k23 K23
   refine W_ret ?_
   refine then_ret ?_
   clear k16 K16
   refine ⟨_, ⟨_, _, _, rfl, rfl, run_loadVarN ag32 sz32 ht2_.blk (Nat.le_of_ble_eq_true rfl), ⟨_, _, rfl, rfl, rfl⟩⟩, ?_⟩
   exact ⟨_, (api_Frame.mk 0 0 0 []), 120, _, _, rfl, hI, ⟨none, 0, rfl, ⟨(Nat.le_refl 0), Sl.nil⟩⟩, h⟩
  ·
   replace h := h.2 hc22_
   refine W_skip ?_
   refine then_n (k16 _ _ ?_)
   clear k16 K16
   refine W_seq_k fun K25 k25 => ?_
   refine W_region [42, none, 3] rfl (Ops_step (R_loadN ag32 sz32 rfl ht13_.blk (Nat.le_of_ble_eq_true rfl)) rfl rfl ?_)
   refine Ops_to0 (R_storeN sz32 rfl rfl rfl ht2_.blk (Nat.le_of_ble_eq_true rfl) rfl) rfl ?_
   rintro _ w26_ ⟨hB26_, hF26_⟩
   replace hI := hI.tok hF26_ (out1 ht2_.out) (new1 hge_b2_)
   replace ht2_ : Tok H17_ _ b2_ 32 ([vi r10_0, vi r11_0, vi r12_0, .slice none 0 0]) := ⟨hB26_, ht2_.out⟩
   clear hF26_ hB26_
   refine Ops_step (R_assign rfl) rfl rfl ?_
   refine Ops_nil ?_
   refine then_n (k25 _ _ ?_)
   clear k25 K25
   refine W_ret ?_
   refine ⟨_, ⟨_, _, _, rfl, rfl, run_loadVarN ag32 sz32 ht2_.blk (Nat.le_of_ble_eq_true rfl), ⟨_, _, rfl, rfl, rfl⟩⟩, ?_⟩
   exact ⟨_, (api_Frame.mk r10_0 r11_0 r12_0 []), 0, _, _, rfl, hI, ⟨none, 0, rfl, ⟨(Nat.le_refl 0), Sl.nil⟩⟩, h⟩

theorem frame_Unwrap_ok {G : Gh} {w : World} (hS : St G w) (hg : GL G) {A0 : Option Addr} {c0 : Nat} {x0 : List UInt8} (hc0 : x0.length ≤ c0) (hs0 : Sl G A0 x0) {x1 : Bool} {A2 : Option Addr} {c2 : Nat} {x2 : List UInt8} (hc2 : x2.length ≤ c2) (hs2 : Sl G A2 x2) {Q : api_Frame → Int → Prop} (h : frame_Unwrap x0 x1 x2 Q) : Calls Tryd.prog 20 #[.slice A0 x0.length c0, .bool x1, .slice A2 x2.length c2] w fun e w2 => ∃ (l0 : List Value) (r0 : api_Frame) (r1 : Int) (L H : Gh), e = .returned (.tuple #[.agg l0.toArray, vi r1]) ∧ Inv [] G w L H w2 ∧ Rp.cs H r0 l0 ∧ Q r0 r1 := by
 unfold frame_Unwrap at h
 have hI := Inv.start (M := []) hS
 refine calls_W 42 Tryd.func20 rfl Tryd.ntmps20 rfl [.cell 6 32, .tmp 7] rfl ?_
 refine W_seq_k fun K1 k1 => ?_
 refine W_region [6, 7] rfl ?_
 have hI0_ := hI
 refine Ops_to (R_alloc zr32) rfl rfl ?_
 rintro _ w2_ ⟨b2_, rfl, hb2_, hB2_, hF2_⟩
 replace hI := hI.fr0 hF2_
 have ht2_ : Tok G _ b2_ 32 ([vi 0, vi 0, vi 0, .slice none 0 0]) := ⟨hB2_.to rfl, Out.ge hI0_.st (Nat.le_of_eq hb2_.symm)⟩
 have hge_b2_ : w.heap.size ≤ b2_ := hb2_ ▸ hI0_.size
 clear hB2_ hb2_ hI0_ hF2_
 refine Ops_step (R_assign rfl) rfl rfl ?_
 refine Ops_nil ?_
 refine then_n (k1 _ _ ?_)
 clear k1 K1
 refine W_seq_k fun K3 k3 => ?_
 refine W_region [12, 13, 11, 14, 15, 8, none, 9] rfl (Ops_step (R_move rfl) rfl rfl ?_)
 refine Ops_call (C_func bd18 rfl) rfl rfl ?_
 refine (frame_Peek_ok (x0 := x2) hI.st (hg.up hI.le) hc2 hs2 h).mono ?_
 rintro _ w4_ ⟨l4_0, r4_0, r4_1, L4_, H4_, rfl, hI4_, hr4_0, h⟩
 refine Exists.elim (hI.call hI4_ (by simp)) fun L40_ h4_ => ?_
 have hz4_ := hI.size
 replace hI := h4_.1
 have u4_ := h4_.2.1
 have hl4_ := h4_.2.2
 clear h4_
 replace hs0 := hs0.up u4_.hh
 replace hs2 := hs2.up u4_.hh
 replace ht2_ := ht2_.up u4_ (by simp)
 replace hr4_0 := Rp.mono hl4_ hr4_0
 obtain ⟨A4_0_1, c4_0_1, rfl, ⟨hc4_0_1, hs4_0_1⟩⟩ := hr4_0
 clear hI4_ u4_ hl4_
 refine ⟨_, rfl, ?_⟩
 refine Ops_step (R_move rfl) rfl rfl ?_
 refine Ops_step (R_extract (v := .agg #[vi r4_0.Conn_, vi r4_0.Seq_, vi r4_0.Ack_, .slice A4_0_1 r4_0.Body_.length c4_0_1]) rfl rfl) rfl rfl ?_
 refine Ops_step (R_extract (v := vi r4_1) rfl rfl) rfl rfl ?_
 have hlo5_b2_ := ht2_.blk.lt
 have hI0_ := hI
 refine Ops_to (R_alloc zr32) rfl rfl ?_
 rintro _ w5_ ⟨b5_, rfl, hb5_, hB5_, hF5_⟩
 replace hI := hI.fr0 hF5_
 replace ht2_ := ht2_.fr0 hF5_
 have ht5_ : Tok H4_ _ b5_ 32 ([vi 0, vi 0, vi 0, .slice none 0 0]) := ⟨hB5_.to rfl, Out.ge hI0_.st (Nat.le_of_eq hb5_.symm)⟩
 have hge_b5_ : w.heap.size ≤ b5_ := hb5_ ▸ hI0_.size
 have hne5_b2_ : b2_ ≠ b5_ := fun e_ => absurd hlo5_b2_ (by omega)
 clear hB5_ hb5_ hI0_ hF5_
 refine Ops_to0 (R_storeN sz32 rfl rfl rfl ht5_.blk (Nat.le_of_ble_eq_true rfl) rfl) rfl ?_
 rintro _ w6_ ⟨hB6_, hF6_⟩
 replace hI := hI.tok hF6_ (out1 ht5_.out) (new1 hge_b5_)
 replace ht2_ := ht2_.fr hF6_ (ne1 hne5_b2_)
 replace ht5_ : Tok H4_ _ b5_ 32 ([vi r4_0.Conn_, vi r4_0.Seq_, vi r4_0.Ack_, .slice A4_0_1 r4_0.Body_.length c4_0_1]) := ⟨hB6_, ht5_.out⟩
 clear hF6_ hB6_
 refine Ops_step (R_assign rfl) rfl rfl ?_
 refine Ops_nil ?_
 refine then_n (k3 _ _ ?_)
 clear k3 K3
 refine W_keepB [0, 1, 2, 6, 8, 9] fun B_ b_ => ?_
 simp only [e_, Nat.reduceAdd, Nat.reduceBEq] at b_
 subst b_
 refine W_seq_k fun K8 k8 => ?_
 refine W_seq_k fun K9 k9 => ?_
 refine W_region [16, 17] rfl (Ops_step (R_move rfl) rfl rfl (Ops_step (R_neq rfl rfl) rfl rfl ?_))
 refine Ops_nil ?_
 refine then_n (k9 _ _ ?_)
 clear k9 K9
 refine W_if rfl (fun hc10_ => ?_) (fun hc10_ => ?_)
 ·
  replace h := h.1 hc10_
  refine W_seq_k fun K11 k11 => ?_
  refine W_region [18, 19, none, 7] rfl (Ops_step (R_loadN ag32 sz32 rfl ht5_.blk (Nat.le_of_ble_eq_true rfl)) rfl rfl (Ops_step (R_move rfl) rfl rfl ?_))
  refine Ops_to0 (R_storeN sz32 rfl rfl rfl ht2_.blk (Nat.le_of_ble_eq_true rfl) rfl) rfl ?_
  rintro _ w12_ ⟨hB12_, hF12_⟩
  replace hI := hI.tok hF12_ (out1 ht2_.out) (new1 hge_b2_)
  replace ht2_ : Tok H4_ _ b2_ 32 ([vi r4_0.Conn_, vi r4_0.Seq_, vi r4_0.Ack_, .slice A4_0_1 r4_0.Body_.length c4_0_1]) := ⟨hB12_, ht2_.out⟩
  clear hF12_ hB12_
  refine Ops_step (R_assign rfl) rfl rfl ?_
  refine Ops_nil ?_
  refine then_n (k11 _ _ ?_)
  clear k11 K11
  refine W_keepB [6, 7] fun B_ b_ => ?_
  simp only [e_, Nat.reduceAdd, Nat.reduceBEq] at b_
  subst b_
  refine W_ret ?_
  refine then_ret ?_
  clear k8 K8
  refine ⟨_, ⟨_, _, _, rfl, rfl, run_loadVarN ag32 sz32 ht2_.blk (Nat.le_of_ble_eq_true rfl), ⟨_, _, rfl, rfl, rfl⟩⟩, ?_⟩
  exact ⟨_, r4_0, r4_1, _, _, rfl, hI, ⟨A4_0_1, c4_0_1, rfl, ⟨hc4_0_1, (hs4_0_1.up hI.sub)⟩⟩, h⟩
 ·
  replace h := h.2 hc10_
  refine W_skip ?_
  refine then_n (k8 _ _ ?_)
  clear k8 K8
  refine W_seq_k fun K14 k14 => ?_
  refine W_drawF [21, 22, 23, 24, 25, 26, 27, 28, 29, 20, 30, 31, 10, 9] [(0, true), (1, true), (2, true), (4, true), (5, true), (6, true), (7, true), (3, false), (8, false), (9, true), (10, true), (11, true), (12, true), (13, true)] TFtG.hm rfl (by kernel_rfl) fun ops15_ w15_ hops15_ hF15_ => ?_
  replace hI := hI.fr0 hF15_
  replace ht2_ := ht2_.fr0 hF15_
  replace ht5_ := ht5_.fr0 hF15_
  clear hF15_
  refine HSp (R_move rfl) rfl rfl ?_
  refine HS_loadN ag32 sz32 rfl ht5_.blk (Nat.le_of_ble_eq_true rfl) rfl rfl ?_
  refine HSp (R_move rfl) rfl rfl (HSp (R_move rfl) rfl rfl ?_)
  have hk17_ := h.1
  replace h := h.2
  refine Exists.elim (cut_ex (n := 1) (l := 0) (h := 24) hs2 rfl (by decide) hc2 (Int.le_refl 0) (by decide) hk17_) fun A16_ h16_ => Exists.elim h16_ fun c16_ h16_ => ?_
  have hr16_ := h16_.1
  have hc16_ := h16_.2.1
  have hs16_ := h16_.2.2
  clear h16_
  refine HSp (X_slice (xs := x2) Tryd.underlying30 sz5 rfl hr16_ hc2 rfl rfl (Int.le_refl 0) (by decide) hk17_) rfl rfl ?_
  clear hr16_
  refine HSp (R_move rfl) rfl rfl ?_
  have hk19_ := h.1
  replace h := h.2
  refine Exists.elim (cut_ex (n := 1) (l := 24) (h := (x2.length : Int)) hs2 rfl (by decide) hc2 (by decide) hk19_ (Int.le_refl _)) fun A18_ h18_ => Exists.elim h18_ fun c18_ h18_ => ?_
  have hr18_ := h18_.1
  have hc18_ := h18_.2.1
  have hs18_ := h18_.2.2
  clear h18_
  refine HSp (X_slice (xs := x2) Tryd.underlying30 sz5 rfl hr18_ hc2 rfl rfl (by decide) hk19_ (Int.le_refl _)) rfl rfl ?_
  clear hr18_
  refine HS_call [] _ rfl (by rw [hops15_]; kernel_rfl) (C_func bd49 rfl) rfl rfl ?_
  refine (frame_once_ok (x0 := r4_0) (x1 := x1) hI.st (hg.up hI.le) ⟨A4_0_1, c4_0_1, rfl, ⟨hc4_0_1, (hs4_0_1.up hI.sub)⟩⟩ h).mono ?_
  rintro _ w20_ ⟨r20_0, L20_, H20_, rfl, hI20_, h⟩
  refine Exists.elim (hI.call hI20_ (by simp)) fun L200_ h20_ => ?_
  have hz20_ := hI.size
  replace hI := h20_.1
  have u20_ := h20_.2.1
  have hl20_ := h20_.2.2
  clear h20_
  replace hs0 := hs0.up u20_.hh
  replace ht2_ := ht2_.up u20_ (by simp)
  replace hs4_0_1 := hs4_0_1.up u20_.ll
  replace ht5_ := ht5_.up u20_ (by simp)
  replace hs16_ := hs16_.up u20_.hh
  replace hs18_ := hs18_.up u20_.hh
  clear hI20_ u20_ hl20_
  refine ⟨_, rfl, trivial, ?_⟩
  refine HS_call [] _ rfl (by rw [hops15_]; kernel_rfl) (C_func bd48 rfl) rfl rfl ?_
  refine (cipher_Open_ok (x0 := x0) (x1 := r20_0) (x2 := (cut x2 0 24)) (x3 := (cut x2 24 (x2.length : Int))) hI.st (hg.up hI.le) hc0 hs0 hc16_ hs16_ hc18_ hs18_ h).mono ?_
  rintro _ w21_ ⟨A21_0, c21_0, r21_0, r21_1, L21_, H21_, rfl, hI21_, ho21_0, h⟩
  refine Exists.elim (hI.call hI21_ (by simp)) fun L210_ h21_ => ?_
  have hz21_ := hI.size
  replace hI := h21_.1
  have u21_ := h21_.2.1
  have hl21_ := h21_.2.2
  clear h21_
  replace ht2_ := ht2_.up u21_ (by simp)
  replace hs4_0_1 := hs4_0_1.up u21_.ll
  replace ht5_ := ht5_.up u21_ (by simp)
  replace ho21_0 := OwnS.backS ho21_0 hz21_ (Le.refl _)
  clear hI21_ u21_ hl21_
  refine ⟨_, rfl, trivial, ?_⟩
  refine Exists.elim (ho21_0.freeze hI) fun L22_ h22_ => Exists.elim h22_ fun H22_ h22_ => ?_
  replace hI := h22_.1
  have u22_ := h22_.2.1
  have hs22_ := h22_.2.2.1 (Le.no _)
  have hc22_ := ho21_0.cap
  replace ht2_ := ht2_.up u22_ (ht2_.sep ho21_0 (by decide))
  replace hs4_0_1 := hs4_0_1.up u22_.ll
  replace ht5_ := ht5_.up u22_ (ht5_.sep ho21_0 (by decide))
  clear h22_ u22_ ho21_0
  refine HSp (R_move rfl) rfl rfl ?_
  refine HSp (R_extract (v := .slice A21_0 r21_0.length c21_0) rfl rfl) rfl rfl ?_
  refine HSp (R_extract (v := vi r21_1) rfl rfl) rfl rfl ?_
  refine HSp (R_assign rfl) rfl rfl (HSp (R_assign rfl) rfl rfl ?_)
  refine HS_nil ?_
  clear hops15_
  refine then_n (k14 _ _ ?_)
  clear k14 K14
  refine W_keepB [6, 8, 9, 10] fun B_ b_ => ?_
  simp only [e_, Nat.reduceAdd, Nat.reduceBEq] at b_
  subst b_
  refine W_seq_k fun K24 k24 => ?_
  refine W_seq_k fun K25 k25 => ?_
  refine W_region [32, 33] rfl (Ops_step (R_move rfl) rfl rfl (Ops_step (R_neq rfl rfl) rfl rfl ?_))
  refine Ops_nil ?_
  refine then_n (k25 _ _ ?_)
  clear k25 K25
  refine W_if rfl (fun hc26_ => ?_) (fun hc26_ => ?_)
  ·
   replace h := h.1 hc26_
   refine W_seq_k fun K27 k27 => ?_
   refine W_region [34, 35, none, 7] rfl ?_
   refine Ops_step (R_build (pl := []) (cs := [vi 0, vi 0, vi 0, .slice none 0 0]) zr32 pl32 rfl rfl rfl) rfl rfl ?_
   refine Ops_step (R_move rfl) rfl rfl ?_
   refine Ops_to0 (R_storeN sz32 rfl rfl rfl ht2_.blk (Nat.le_of_ble_eq_true rfl) rfl) rfl ?_
   rintro _ w28_ ⟨hB28_, hF28_⟩
   replace hI := hI.tok hF28_ (out1 ht2_.out) (new1 hge_b2_)
   replace ht2_ : Tok H22_ _ b2_ 32 ([vi 0, vi 0, vi 0, .slice none 0 0]) := ⟨hB28_, ht2_.out⟩
   clear hF28_ hB28_
   refine Ops_step (R_assign rfl) rfl rfl ?_
   refine Ops_nil ?_
   refine then_n (k27 _ _ ?_)
   clear k27 K27
   refine W_keepB [6, 7] fun B_ b_ => ?_
   simp only [e_, Nat.reduceAdd, Nat.reduceBEq] at b_
   subst b_
   refine W_ret ?_
   refine then_ret ?_
   clear k24 K24
   refine ⟨_, ⟨_, _, _, rfl, rfl, run_loadVarN ag32 sz32 ht2_.blk (Nat.le_of_ble_eq_true rfl), ⟨_, _, rfl, rfl, rfl⟩⟩, ?_⟩
   exact ⟨_, (api_Frame.mk 0 0 0 []), r21_1, _, _, rfl, hI, ⟨none, 0, rfl, ⟨(Nat.le_refl 0), Sl.nil⟩⟩, h⟩
  ·
   replace h := h.2 hc26_
   refine W_skip ?_
   refine then_n (k24 _ _ ?_)
   clear k24 K24
   refine ex_ h fun J30_ hr30_ h => ?_
   refine W_seq_join [6, 8] [] (fun vals_ w2 => ∃ (yb5__30 : api_Frame) (L H : Gh), vals_ = [] ∧ J30_ yb5__30 ∧ Inv [] G w L H w2 ∧ Le L22_ L ∧ Le H22_ H ∧ Ob 32 H H w2 b5_ yb5__30 ∧ Tok H w2 b2_ 32 ([vi 0, vi 0, vi 0, .slice none 0 0]) ∧ True) (fun B_ b_ => ?_) (fun B_ b_ => ?_)
   ·
    simp only [e_, Nat.reduceAdd, Nat.reduceBEq] at b_
    subst b_
    clear hr30_
    have hll30_ := Le.refl L22_
    have hhh30_ := Le.refl H22_
    refine W_seq_k fun K31 k31 => ?_
    refine W_region [36, 37, 38] rfl (Ops_step (R_move rfl) rfl rfl (Ops_step (R_len Tryd.underlying30 rfl rfl) rfl rfl (Ops_step (R_gtr rfl rfl) rfl rfl ?_)))
    refine Ops_nil ?_
    refine then_n (k31 _ _ ?_)
    clear k31 K31
    refine W_if rfl (fun hc32_ => ?_) (fun hc32_ => ?_)
    ·
     replace h := h.1 hc32_
     refine W_region [39, 40, none] rfl (Ops_step (R_move rfl) rfl rfl (Ops_step (R_fieldAddr fo32_3 rfl) rfl rfl ?_))
     refine Ops_to0 (R_store sz30 rfl rfl ht5_.blk (by show 3 < 4; decide) rfl) rfl ?_
     rintro _ w33_ ⟨hB33_, hF33_⟩
     replace hI := hI.tok hF33_ (out1 ht5_.out) (new1 hge_b5_)
     replace ht2_ := ht2_.fr hF33_ (ne1 hne5_b2_)
     replace ht5_ : Tok H22_ _ b5_ 32 ([vi r4_0.Conn_, vi r4_0.Seq_, vi r4_0.Ack_, .slice A21_0 r21_0.length c21_0]) := ⟨hB33_, ht5_.out⟩
     clear hF33_ hB33_
     refine Ops_nil ?_
     refine then_n ?_
     exact ⟨_, rfl, ⟨(api_Frame.mk r4_0.Conn_ r4_0.Seq_ r4_0.Ack_ r21_0), _, _, rfl, h, hI, hll30_, hhh30_, ⟨_, ⟨A21_0, c21_0, rfl, ⟨hc22_, (hs22_.up hI.sub)⟩⟩, ht5_⟩, ht2_, trivial⟩, ⟨rfl, rfl, trivial⟩⟩
    ·
     replace h := h.2 hc32_
     refine W_skip ?_
     refine then_n ?_
     exact ⟨_, rfl, ⟨r4_0, _, _, rfl, h, hI, hll30_, hhh30_, ⟨_, ⟨A4_0_1, c4_0_1, rfl, ⟨hc4_0_1, (hs4_0_1.up hI.sub)⟩⟩, ht5_⟩, ht2_, trivial⟩, ⟨rfl, rfl, trivial⟩⟩
   ·
    simp only [e_, Nat.reduceAdd, Nat.reduceBEq] at b_
    subst b_
    clear h
    clear ht2_
    rintro _ w30_ ⟨yb5__30, L30_, H30_, rfl, hJ30_, hI30_, hll30_, hhh30_, hqb5__30, ht2_, -⟩
    replace hI := hI30_
    clear hI30_
    have h := hr30_ yb5__30 hJ30_
    clear hr30_ hJ30_
    replace hs4_0_1 := hs4_0_1.up hll30_
    obtain ⟨lb5__30_, hlb5__30_, htb5__30⟩ := hqb5__30
    obtain ⟨Ab5__30_1, cb5__30_1, rfl, ⟨hcb5__30_1, hsb5__30_1⟩⟩ := hlb5__30_
    refine W_seq_k fun K34 k34 => ?_
    refine W_region [41, none, 7] rfl (Ops_step (R_loadN ag32 sz32 rfl htb5__30.blk (Nat.le_of_ble_eq_true rfl)) rfl rfl ?_)
    refine Ops_to0 (R_storeN sz32 rfl rfl rfl ht2_.blk (Nat.le_of_ble_eq_true rfl) rfl) rfl ?_
    rintro _ w35_ ⟨hB35_, hF35_⟩
    replace hI := hI.tok hF35_ (out1 ht2_.out) (new1 hge_b2_)
    replace ht2_ : Tok H30_ _ b2_ 32 ([vi yb5__30.Conn_, vi yb5__30.Seq_, vi yb5__30.Ack_, .slice Ab5__30_1 yb5__30.Body_.length cb5__30_1]) := ⟨hB35_, ht2_.out⟩
    clear hF35_ hB35_
    refine Ops_step (R_assign rfl) rfl rfl ?_
    refine Ops_nil ?_
    refine then_n (k34 _ _ ?_)
    clear k34 K34
    refine W_ret ?_
    refine ⟨_, ⟨_, _, _, rfl, rfl, run_loadVarN ag32 sz32 ht2_.blk (Nat.le_of_ble_eq_true rfl), ⟨_, _, rfl, rfl, rfl⟩⟩, ?_⟩
    exact ⟨_, yb5__30, 0, _, _, rfl, hI, ⟨Ab5__30_1, cb5__30_1, rfl, ⟨hcb5__30_1, hsb5__30_1⟩⟩, h⟩

theorem sealskinref13_Fits_ok {G : Gh} {w : World} (hS : St G w) (hg : GL G) {l0 : List Value} {x0 : api_Frame} (hr0 : Rp.cs G x0 l0) {Q : Int → Prop} (h : sealskinref13_Fits x0 Q) : Calls Tryd.prog 29 #[.agg l0.toArray] w fun e w2 => ∃ (r0 : Int) (L H : Gh), e = .returned (vi r0) ∧ Inv [] G w L H w2 ∧ Q r0 := by
 unfold sealskinref13_Fits at h
 have hI := Inv.start (M := []) hS
 refine calls_W 55 Tryd.func29 rfl Tryd.ntmps29 rfl [.tmp 2] rfl ?_
 obtain ⟨A0_1, c0_1, rfl, ⟨hc0_1, hs0_1⟩⟩ := hr0
 refine W_seq_k fun K1 k1 => ?_
 refine W_region [1, 2] rfl ?_
 have hI0_ := hI
 refine Ops_to (R_box rfl) rfl rfl ?_
 rintro _ w2_ ⟨b2_, rfl, hb2_, hB2_, hF2_⟩
 replace hI := hI.fr0 hF2_
 have ht2_ : Tok G _ b2_ 32 ([vi x0.Conn_, vi x0.Seq_, vi x0.Ack_, .slice A0_1 x0.Body_.length c0_1]) := ⟨hB2_.to rfl, Out.ge hI0_.st (Nat.le_of_eq hb2_.symm)⟩
 have hge_b2_ : w.heap.size ≤ b2_ := hb2_ ▸ hI0_.size
 clear hB2_ hb2_ hI0_ hF2_
 refine Ops_step (R_assign rfl) rfl rfl ?_
 refine Ops_nil ?_
 refine then_n (k1 _ _ ?_)
 clear k1 K1
 refine W_seq_k fun K3 k3 => ?_
 refine ex_ h fun J4_ hr4_ h => ?_
 refine W_seq_join [1] [30] (fun vals_ w2 => ∃ (x30_4 : Bool) (L H : Gh), vals_ = [.bool x30_4] ∧ J4_ x30_4 ∧ Inv [] G w L H w2 ∧ Le Gh.no L ∧ Le G H ∧ Tok H w2 b2_ 32 ([vi x0.Conn_, vi x0.Seq_, vi x0.Ack_, .slice A0_1 x0.Body_.length c0_1]) ∧ True) (fun B_ b_ => ?_) (fun B_ b_ => ?_)
 ·
  simp only [e_, Nat.reduceAdd, Nat.reduceBEq] at b_
  subst b_
  clear hr4_
  have hll4_ := Le.refl Gh.no
  have hhh4_ := Le.refl G
  refine W_region [3, 4, 5, 6, 7, 8, 9, 10, 11, 12, 13, 14, 15, 16, 17, 18, 19, 20, 21, 22, 23, 24, 25, 26, 27, 28, 29, 30] rfl (Ops_step (R_fieldAddr fo32_0 rfl) rfl rfl ?_)
  refine Ops_step (R_loadB (v := vi x0.Conn_) ag3 rfl ht2_.blk rfl) rfl rfl ?_
  refine Ops_step (R_lss rfl rfl) rfl rfl (Ops_step (R_move rfl) rfl rfl ?_)
  refine Ops_split 6 rfl (fun hg5_ => ?_) (fun hg5_ => ?_)
  ·
   replace h := h.1 hg5_
   refine Ops_pass rfl rfl (Ops_pass rfl rfl (Ops_pass rfl rfl (Ops_step (R_pick_true rfl rfl) rfl rfl (Ops_step (R_move rfl) rfl rfl ?_))))
   refine Ops_pass rfl rfl (Ops_pass rfl rfl (Ops_pass rfl rfl (Ops_step (R_pick_true rfl rfl) rfl rfl (Ops_step (R_move rfl) rfl rfl ?_))))
   refine Ops_pass rfl rfl (Ops_pass rfl rfl (Ops_pass rfl rfl (Ops_step (R_pick_true rfl rfl) rfl rfl (Ops_step (R_move rfl) rfl rfl ?_))))
   refine Ops_pass rfl rfl (Ops_pass rfl rfl (Ops_pass rfl rfl (Ops_step (R_pick_true rfl rfl) rfl rfl (Ops_step (R_move rfl) rfl rfl ?_))))
   refine Ops_pass rfl rfl (Ops_pass rfl rfl (Ops_pass rfl rfl (Ops_step (R_pick_true rfl rfl) rfl rfl ?_)))
   refine Ops_nil ?_
   refine then_n ?_
   exact ⟨_, rfl, ⟨true, _, _, rfl, h, hI, hll4_, hhh4_, ht2_, trivial⟩, ⟨rfl, trivial⟩⟩
  ·
   replace h := h.2 hg5_
   refine Ops_step (R_fieldAddr fo32_0 rfl) rfl rfl ?_
   refine Ops_step (R_loadB (v := vi x0.Conn_) ag3 rfl ht2_.blk rfl) rfl rfl ?_
   refine Ops_step (R_gtr rfl rfl) rfl rfl (Ops_step (R_pick_false rfl rfl) rfl rfl (Ops_step (R_move rfl) rfl rfl ?_))
   refine Ops_split 11 rfl (fun hg6_ => ?_) (fun hg6_ => ?_)
   ·
    replace h := h.1 hg6_
    refine Ops_pass rfl rfl (Ops_pass rfl rfl (Ops_pass rfl rfl (Ops_step (R_pick_true rfl rfl) rfl rfl (Ops_step (R_move rfl) rfl rfl ?_))))
    refine Ops_pass rfl rfl (Ops_pass rfl rfl (Ops_pass rfl rfl (Ops_step (R_pick_true rfl rfl) rfl rfl (Ops_step (R_move rfl) rfl rfl ?_))))
    refine Ops_pass rfl rfl (Ops_pass rfl rfl (Ops_pass rfl rfl (Ops_step (R_pick_true rfl rfl) rfl rfl (Ops_step (R_move rfl) rfl rfl ?_))))
    refine Ops_pass rfl rfl (Ops_pass rfl rfl (Ops_pass rfl rfl (Ops_step (R_pick_true rfl rfl) rfl rfl ?_)))
    refine Ops_nil ?_
    refine then_n ?_
    exact ⟨_, rfl, ⟨true, _, _, rfl, h, hI, hll4_, hhh4_, ht2_, trivial⟩, ⟨rfl, trivial⟩⟩
   ·
    replace h := h.2 hg6_
    refine Ops_step (R_fieldAddr fo32_1 rfl) rfl rfl ?_
    refine Ops_step (R_loadB (v := vi x0.Seq_) ag3 rfl ht2_.blk rfl) rfl rfl ?_
    refine Ops_step (R_lss rfl rfl) rfl rfl (Ops_step (R_pick_false rfl rfl) rfl rfl (Ops_step (R_move rfl) rfl rfl ?_))
    refine Ops_split 16 rfl (fun hg7_ => ?_) (fun hg7_ => ?_)
    ·
     replace h := h.1 hg7_
     refine Ops_pass rfl rfl (Ops_pass rfl rfl (Ops_pass rfl rfl (Ops_step (R_pick_true rfl rfl) rfl rfl (Ops_step (R_move rfl) rfl rfl ?_))))
     refine Ops_pass rfl rfl (Ops_pass rfl rfl (Ops_pass rfl rfl (Ops_step (R_pick_true rfl rfl) rfl rfl (Ops_step (R_move rfl) rfl rfl ?_))))
     refine Ops_pass rfl rfl (Ops_pass rfl rfl (Ops_pass rfl rfl (Ops_step (R_pick_true rfl rfl) rfl rfl ?_)))
     refine Ops_nil ?_
     refine then_n ?_
     exact ⟨_, rfl, ⟨true, _, _, rfl, h, hI, hll4_, hhh4_, ht2_, trivial⟩, ⟨rfl, trivial⟩⟩
    ·
     replace h := h.2 hg7_
     refine Ops_step (R_fieldAddr fo32_1 rfl) rfl rfl ?_
     refine Ops_step (R_loadB (v := vi x0.Seq_) ag3 rfl ht2_.blk rfl) rfl rfl ?_
     refine Ops_step (R_gtr rfl rfl) rfl rfl (Ops_step (R_pick_false rfl rfl) rfl rfl (Ops_step (R_move rfl) rfl rfl ?_))
     refine Ops_split 21 rfl (fun hg8_ => ?_) (fun hg8_ => ?_)
     ·
      replace h := h.1 hg8_
      refine Ops_pass rfl rfl (Ops_pass rfl rfl (Ops_pass rfl rfl (Ops_step (R_pick_true rfl rfl) rfl rfl (Ops_step (R_move rfl) rfl rfl ?_))))
      refine Ops_pass rfl rfl (Ops_pass rfl rfl (Ops_pass rfl rfl (Ops_step (R_pick_true rfl rfl) rfl rfl ?_)))
      refine Ops_nil ?_
      refine then_n ?_
      exact ⟨_, rfl, ⟨true, _, _, rfl, h, hI, hll4_, hhh4_, ht2_, trivial⟩, ⟨rfl, trivial⟩⟩
     ·
      replace h := h.2 hg8_
      refine Ops_step (R_fieldAddr fo32_2 rfl) rfl rfl ?_
      refine Ops_step (R_loadB (v := vi x0.Ack_) ag3 rfl ht2_.blk rfl) rfl rfl ?_
      refine Ops_step (R_lss rfl rfl) rfl rfl (Ops_step (R_pick_false rfl rfl) rfl rfl (Ops_step (R_move rfl) rfl rfl ?_))
      refine Ops_split 26 rfl (fun hg9_ => ?_) (fun hg9_ => ?_)
      ·
       replace h := h.1 hg9_
       refine Ops_pass rfl rfl (Ops_pass rfl rfl (Ops_pass rfl rfl (Ops_step (R_pick_true rfl rfl) rfl rfl ?_)))
       refine Ops_nil ?_
       refine then_n ?_
       exact ⟨_, rfl, ⟨true, _, _, rfl, h, hI, hll4_, hhh4_, ht2_, trivial⟩, ⟨rfl, trivial⟩⟩
      ·
       replace h := h.2 hg9_
       refine Ops_step (R_fieldAddr fo32_2 rfl) rfl rfl ?_
       refine Ops_step (R_loadB (v := vi x0.Ack_) ag3 rfl ht2_.blk rfl) rfl rfl ?_
       refine Ops_step (R_gtr rfl rfl) rfl rfl (Ops_step (R_pick_false rfl rfl) rfl rfl ?_)
       refine Ops_nil ?_
       refine then_n ?_
       exact ⟨_, rfl, ⟨(decide (x0.Ack_ > 1099511627776)), _, _, rfl, h, hI, hll4_, hhh4_, ht2_, trivial⟩, ⟨rfl, trivial⟩⟩
 ·
  simp only [e_, Nat.reduceAdd, Nat.reduceBEq] at b_
  subst b_
  clear h
  clear ht2_
  rintro _ w4_ ⟨x30_4, L4_, H4_, rfl, hJ4_, hI4_, hll4_, hhh4_, ht2_, -⟩
  replace hI := hI4_
  clear hI4_
  have h := hr4_ x30_4 hJ4_
  clear hr4_ hJ4_
  replace hs0_1 := hs0_1.up hhh4_
  refine W_cond rfl (fun hc10_ => ?_) (fun hc10_ => ?_)
  ·
   replace h := h.1 hc10_
   refine W_seq_k fun K11 k11 => ?_
   refine W_region [2] rfl (Ops_step (R_assign rfl) rfl rfl ?_)
   refine Ops_nil ?_
   refine then_n (k11 _ _ ?_)
   clear k11 K11
   refine W_ret ?_
   refine then_ret ?_
   clear k3 K3
   refine ⟨_, ⟨_, _, rfl, rfl, rfl⟩, ?_⟩
   exact ⟨120, _, _, rfl, hI, h⟩
  ·
   replace h := h.2 hc10_
   refine W_skip ?_
   refine then_n (k3 _ _ ?_)
   clear k3 K3
   refine W_seq_k fun K12 k12 => ?_
   refine ex_ h fun J13_ hr13_ h => ?_
   refine W_seq_join [1] [50] (fun vals_ w2 => ∃ (x50_13 : Bool) (L H : Gh), vals_ = [.bool x50_13] ∧ J13_ x50_13 ∧ Inv [] G w L H w2 ∧ Le L4_ L ∧ Le H4_ H ∧ Tok H w2 b2_ 32 ([vi x0.Conn_, vi x0.Seq_, vi x0.Ack_, .slice A0_1 x0.Body_.length c0_1]) ∧ True) (fun B_ b_ => ?_) (fun B_ b_ => ?_)
   ·
    simp only [e_, Nat.reduceAdd, Nat.reduceBEq] at b_
    subst b_
    clear hr13_
    have hll13_ := Le.refl L4_
    have hhh13_ := Le.refl H4_
    refine W_region [31, 32, 33, 34, 35, 36, 37, 38, 39, 40, 41, 42, 43, 44, 45, 46, 47, 48, 49, 50] rfl (Ops_step (R_fieldAddr fo32_1 rfl) rfl rfl ?_)
    refine Ops_step (R_loadB (v := vi x0.Seq_) ag3 rfl ht2_.blk rfl) rfl rfl ?_
    refine Ops_step (R_eql rfl rfl) rfl rfl (Ops_step (R_move rfl) rfl rfl ?_)
    refine Ops_split 34 rfl (fun hg14_ => ?_) (fun hg14_ => ?_)
    ·
     replace h := h.1 hg14_
     refine Ops_step (R_fieldAddr fo32_3 rfl) rfl rfl ?_
     refine Ops_step (R_loadB (v := .slice A0_1 x0.Body_.length c0_1) ag30 rfl ht2_.blk rfl) rfl rfl ?_
     refine Ops_step (R_len Tryd.underlying30 rfl rfl) rfl rfl (Ops_step (R_gtr rfl rfl) rfl rfl (Ops_step (R_pick_true rfl rfl) rfl rfl (Ops_step (R_move rfl) rfl rfl ?_)))
     refine Ops_split 40 rfl (fun hg15_ => ?_) (fun hg15_ => ?_)
     ·
      replace h := h.1 hg15_
      refine Ops_pass rfl rfl (Ops_pass rfl rfl (Ops_pass rfl rfl (Ops_pass rfl rfl (Ops_passU rfl rfl ?_))))
      refine Ops_passU rfl rfl (Ops_passU rfl rfl (Ops_passU rfl rfl (Ops_pass rfl rfl (Ops_step (R_pick_true rfl rfl) rfl rfl ?_))))
      refine Ops_nil ?_
      refine then_n ?_
      exact ⟨_, rfl, ⟨true, _, _, rfl, h, hI, hll13_, hhh13_, ht2_, trivial⟩, ⟨rfl, trivial⟩⟩
     ·
      replace h := h.2 hg15_
      refine Ops_step (R_fieldAddr fo32_1 rfl) rfl rfl ?_
      refine Ops_step (R_loadB (v := vi x0.Seq_) ag3 rfl ht2_.blk rfl) rfl rfl ?_
      refine Ops_step (R_gtr rfl rfl) rfl rfl (Ops_step (R_move rfl) rfl rfl ?_)
      refine Ops_split 44 rfl (fun hg16_ => ?_) (fun hg16_ => ?_)
      ·
       replace h := h.1 hg16_
       refine Ops_step (R_fieldAddr fo32_3 rfl) rfl rfl ?_
       refine Ops_step (R_loadB (v := .slice A0_1 x0.Body_.length c0_1) ag30 rfl ht2_.blk rfl) rfl rfl ?_
       refine Ops_step (R_len Tryd.underlying30 rfl rfl) rfl rfl (Ops_step (R_eql rfl rfl) rfl rfl (Ops_step (R_pick_true rfl rfl) rfl rfl (Ops_step (R_pick_false rfl rfl) rfl rfl ?_)))
       refine Ops_nil ?_
       refine then_n ?_
       exact ⟨_, rfl, ⟨(decide ((x0.Body_.length : Int) = 0)), _, _, rfl, h, hI, hll13_, hhh13_, ht2_, trivial⟩, ⟨rfl, trivial⟩⟩
      ·
       replace h := h.2 hg16_
       refine Ops_pass rfl rfl (Ops_pass rfl rfl (Ops_pass rfl rfl (Ops_pass rfl rfl (Ops_step (R_pick_false rfl rfl) rfl rfl ?_))))
       refine Ops_step (R_pick_false rfl rfl) rfl rfl ?_
       refine Ops_nil ?_
       refine then_n ?_
       exact ⟨_, rfl, ⟨false, _, _, rfl, h, hI, hll13_, hhh13_, ht2_, trivial⟩, ⟨rfl, trivial⟩⟩
    ·
     replace h := h.2 hg14_
     refine Ops_pass rfl rfl (Ops_pass rfl rfl (Ops_pass rfl rfl (Ops_pass rfl rfl (Ops_step (R_pick_false rfl rfl) rfl rfl ?_))))
     refine Ops_step (R_move rfl) rfl rfl (Ops_step (R_fieldAddr fo32_1 rfl) rfl rfl ?_)
     refine Ops_step (R_loadB (v := vi x0.Seq_) ag3 rfl ht2_.blk rfl) rfl rfl ?_
     refine Ops_step (R_gtr rfl rfl) rfl rfl (Ops_step (R_move rfl) rfl rfl ?_)
     refine Ops_split 44 rfl (fun hg17_ => ?_) (fun hg17_ => ?_)
     ·
      replace h := h.1 hg17_
      refine Ops_step (R_fieldAddr fo32_3 rfl) rfl rfl ?_
      refine Ops_step (R_loadB (v := .slice A0_1 x0.Body_.length c0_1) ag30 rfl ht2_.blk rfl) rfl rfl ?_
      refine Ops_step (R_len Tryd.underlying30 rfl rfl) rfl rfl (Ops_step (R_eql rfl rfl) rfl rfl (Ops_step (R_pick_true rfl rfl) rfl rfl (Ops_step (R_pick_false rfl rfl) rfl rfl ?_)))
      refine Ops_nil ?_
      refine then_n ?_
      exact ⟨_, rfl, ⟨(decide ((x0.Body_.length : Int) = 0)), _, _, rfl, h, hI, hll13_, hhh13_, ht2_, trivial⟩, ⟨rfl, trivial⟩⟩
     ·
      replace h := h.2 hg17_
      refine Ops_pass rfl rfl (Ops_pass rfl rfl (Ops_pass rfl rfl (Ops_pass rfl rfl (Ops_step (R_pick_false rfl rfl) rfl rfl ?_))))
      refine Ops_step (R_pick_false rfl rfl) rfl rfl ?_
      refine Ops_nil ?_
      refine then_n ?_
      exact ⟨_, rfl, ⟨false, _, _, rfl, h, hI, hll13_, hhh13_, ht2_, trivial⟩, ⟨rfl, trivial⟩⟩
   ·
    simp only [e_, Nat.reduceAdd, Nat.reduceBEq] at b_
    subst b_
    clear h
    clear ht2_
    rintro _ w13_ ⟨x50_13, L13_, H13_, rfl, hJ13_, hI13_, hll13_, hhh13_, ht2_, -⟩
    replace hI := hI13_
    clear hI13_
    have h := hr13_ x50_13 hJ13_
    clear hr13_ hJ13_
    replace hs0_1 := hs0_1.up hhh13_
    refine W_cond rfl (fun hc18_ => ?_) (fun hc18_ => ?_)
    ·
     replace h := h.1 hc18_
     refine W_seq_k fun K19 k19 => ?_
     refine W_region [2] rfl (Ops_step (R_assign rfl) rfl rfl ?_)
     refine Ops_nil ?_
     refine then_n (k19 _ _ ?_)
     clear k19 K19
     refine W_ret ?_
     refine then_ret ?_
     clear k12 K12
     refine ⟨_, ⟨_, _, rfl, rfl, rfl⟩, ?_⟩
     exact ⟨120, _, _, rfl, hI, h⟩
    ·
     replace h := h.2 hc18_
     refine W_skip ?_
     refine then_n (k12 _ _ ?_)
     clear k12 K12
     refine W_seq_k fun K20 k20 => ?_
     refine W_seq_k fun K21 k21 => ?_
     refine W_region [51, 52, 53, 54] rfl (Ops_step (R_fieldAddr fo32_3 rfl) rfl rfl ?_)
     refine Ops_step (R_loadB (v := .slice A0_1 x0.Body_.length c0_1) ag30 rfl ht2_.blk rfl) rfl rfl ?_
     refine Ops_step (R_len Tryd.underlying30 rfl rfl) rfl rfl (Ops_step (R_gtr rfl rfl) rfl rfl ?_)
     refine Ops_nil ?_
     refine then_n (k21 _ _ ?_)
     clear k21 K21
     refine W_if rfl (fun hc22_ => ?_) (fun hc22_ => ?_)
     ·
      replace h := h.1 hc22_
      refine W_seq_k fun K23 k23 => ?_
      refine W_region [2] rfl (Ops_step (R_assign rfl) rfl rfl ?_)
      refine Ops_nil ?_
      refine then_n (k23 _ _ ?_)
      clear k23 K23
      refine W_keepB [2] fun B_ b_ => ?_
      simp only [e_, Nat.reduceAdd, Nat.reduceBEq] at b_
      subst b_
      refine W_ret ?_
      refine then_ret ?_
      clear k20 K20
      refine ⟨_, ⟨_, _, rfl, rfl, rfl⟩, ?_⟩
      exact ⟨4, _, _, rfl, hI, h⟩
     ·
      replace h := h.2 hc22_
      refine W_skip ?_
      refine then_n (k20 _ _ ?_)
      clear k20 K20
      refine W_keepB [] fun B_ b_ => ?_
      simp only [e_, Nat.reduceAdd, Nat.reduceBEq] at b_
      subst b_
      refine W_seq_k fun K26 k26 => ?_
      refine W_region [2] rfl (Ops_step (R_assign rfl) rfl rfl ?_)
      refine Ops_nil ?_
      refine then_n (k26 _ _ ?_)
      clear k26 K26
      refine W_ret ?_
      refine ⟨_, ⟨_, _, rfl, rfl, rfl⟩, ?_⟩
      exact ⟨0, _, _, rfl, hI, h⟩

theorem sealskinref13_once_ok {G : Gh} {w : World} (hS : St G w) (hg : GL G) {x0 : Int} {x1 : Bool} {Q : (BitVec 64) → Prop} (h : sealskinref13_once x0 x1 Q) : Calls Tryd.prog 51 #[vi x0, .bool x1] w fun e w2 => ∃ (r0 : BitVec 64) (L H : Gh), e = .returned (w64 r0) ∧ Inv [] G w L H w2 ∧ Q r0 := by
 unfold sealskinref13_once at h
 have hI := Inv.start (M := []) hS
 refine calls_W 13 Tryd.func51 rfl Tryd.ntmps51 rfl [.tmp 4] rfl ?_
 refine W_seq_k fun K1 k1 => ?_
 refine W_region [4] rfl (Ops_step (R_assign rfl) rfl rfl ?_)
 refine Ops_nil ?_
 refine then_n (k1 _ _ ?_)
 clear k1 K1
 refine W_seq_k fun K2 k2 => ?_
 refine W_seq_k fun K3 k3 => ?_
 refine W_region [5] rfl (Ops_step (R_move rfl) rfl rfl ?_)
 refine Ops_nil ?_
 refine then_n (k3 _ _ ?_)
 clear k3 K3
 refine W_cond rfl (fun hc4_ => ?_) (fun hc4_ => ?_)
 ·
  replace h := h.1 hc4_
  refine W_seq_k fun K5 k5 => ?_
  refine W_region [6, 7, 8, 4] rfl (Ops_step (R_move rfl) rfl rfl (Ops_step (R_conv Tryd.underlying3 Tryd.underlying72 rfl (cI_64 _)) rfl rfl (Ops_step (R_mul rfl rfl (mul64 (2#64) (BitVec.ofInt 64 x0))) rfl rfl (Ops_step (R_assign rfl) rfl rfl ?_))))
  refine Ops_nil ?_
  refine then_n (k5 _ _ ?_)
  clear k5 K5
  refine W_keepB [4] fun B_ b_ => ?_
  simp only [e_, Nat.reduceAdd, Nat.reduceBEq] at b_
  subst b_
  refine W_ret ?_
  refine then_ret ?_
  clear k2 K2
  refine ⟨_, ⟨_, _, rfl, rfl, rfl⟩, ?_⟩
  exact ⟨((2#64) * (BitVec.ofInt 64 x0)), _, _, rfl, hI, h⟩
 ·
  replace h := h.2 hc4_
  refine W_skip ?_
  refine then_n (k2 _ _ ?_)
  clear k2 K2
  refine W_seq_k fun K7 k7 => ?_
  refine W_region [9, 10, 11, 12, 4] rfl (Ops_step (R_move rfl) rfl rfl (Ops_step (R_conv Tryd.underlying3 Tryd.underlying72 rfl (cI_64 _)) rfl rfl (Ops_step (R_mul rfl rfl (mul64 (2#64) (BitVec.ofInt 64 x0))) rfl rfl (Ops_step (R_add rfl rfl (add64 ((2#64) * (BitVec.ofInt 64 x0)) (1#64))) rfl rfl ?_))))
  refine Ops_step (R_assign rfl) rfl rfl ?_
  refine Ops_nil ?_
  refine then_n (k7 _ _ ?_)
  clear k7 K7
  refine W_keepB [4] fun B_ b_ => ?_
  simp only [e_, Nat.reduceAdd, Nat.reduceBEq] at b_
  subst b_
  refine W_ret ?_
  refine ⟨_, ⟨_, _, rfl, rfl, rfl⟩, ?_⟩
  exact ⟨(((2#64) * (BitVec.ofInt 64 x0)) + (1#64)), _, _, rfl, hI, h⟩

theorem sealskinref13_Wrap_ok {G : Gh} {w : World} (hS : St G w) (hg : GL G) {A0 : Option Addr} {c0 : Nat} {x0 : List UInt8} (hc0 : x0.length ≤ c0) (hs0 : Sl G A0 x0) {x1 : Bool} {l2 : List Value} {x2 : api_Frame} (hr2 : Rp.cs G x2 l2) {Q : (List UInt8) → Int → Prop} (h : sealskinref13_Wrap x0 x1 x2 Q) : Calls Tryd.prog 31 #[.slice A0 x0.length c0, .bool x1, .agg l2.toArray] w fun e w2 => ∃ (A0 : Option Addr) (c0 : Nat) (r0 : List UInt8) (r1 : Int) (L H : Gh), e = .returned (.tuple #[.slice A0 r0.length c0, vi r1]) ∧ Inv [] G w L H w2 ∧ OwnS w.heap.size 5 L H w2 A0 c0 r0 ∧ Q r0 r1 := by
 unfold sealskinref13_Wrap at h
 have hI := Inv.start (M := []) hS
 refine calls_W 43 Tryd.func31 rfl Tryd.ntmps31 rfl [.tmp 6, .tmp 7] rfl ?_
 obtain ⟨A2_1, c2_1, rfl, ⟨hc2_1, hs2_1⟩⟩ := hr2
 refine W_seq_k fun K1 k1 => ?_
 refine W_region [5, 6, 7] rfl ?_
 have hI0_ := hI
 refine Ops_to (R_box rfl) rfl rfl ?_
 rintro _ w2_ ⟨b2_, rfl, hb2_, hB2_, hF2_⟩
 replace hI := hI.fr0 hF2_
 have ht2_ : Tok G _ b2_ 32 ([vi x2.Conn_, vi x2.Seq_, vi x2.Ack_, .slice A2_1 x2.Body_.length c2_1]) := ⟨hB2_.to rfl, Out.ge hI0_.st (Nat.le_of_eq hb2_.symm)⟩
 have hge_b2_ : w.heap.size ≤ b2_ := hb2_ ▸ hI0_.size
 clear hB2_ hb2_ hI0_ hF2_
 refine Ops_step (R_assign rfl) rfl rfl (Ops_step (R_assign rfl) rfl rfl ?_)
 refine Ops_nil ?_
 refine then_n (k1 _ _ ?_)
 clear k1 K1
 refine W_seq_k fun K3 k3 => ?_
 refine W_seq_k fun K4 k4 => ?_
 refine W_region [12, 13, 8] rfl (Ops_step (R_loadN ag32 sz32 rfl ht2_.blk (Nat.le_of_ble_eq_true rfl)) rfl rfl ?_)
 refine Ops_call (C_func bd29 rfl) rfl rfl ?_
 refine (sealskinref13_Fits_ok (x0 := x2) hI.st (hg.up hI.le) ⟨A2_1, c2_1, rfl, ⟨hc2_1, hs2_1⟩⟩ h).mono ?_
 rintro _ w5_ ⟨r5_0, L5_, H5_, rfl, hI5_, h⟩
 refine Exists.elim (hI.call hI5_ (by simp)) fun L50_ h5_ => ?_
 have hz5_ := hI.size
 replace hI := h5_.1
 have u5_ := h5_.2.1
 have hl5_ := h5_.2.2
 clear h5_
 replace hs0 := hs0.up u5_.hh
 replace hs2_1 := hs2_1.up u5_.hh
 replace ht2_ := ht2_.up u5_ (by simp)
 clear hI5_ u5_ hl5_
 refine ⟨_, rfl, ?_⟩
 refine Ops_step (R_assign rfl) rfl rfl ?_
 refine Ops_nil ?_
 refine then_n (k4 _ _ ?_)
 clear k4 K4
 refine W_seq_k fun K6 k6 => ?_
 refine W_region [14, 15] rfl (Ops_step (R_move rfl) rfl rfl (Ops_step (R_neq rfl rfl) rfl rfl ?_))
 refine Ops_nil ?_
 refine then_n (k6 _ _ ?_)
 clear k6 K6
 refine W_keepB [0, 1, 5, 8, 15] fun B_ b_ => ?_
 simp only [e_, Nat.reduceAdd, Nat.reduceBEq] at b_
 subst b_
 refine W_if rfl (fun hc8_ => ?_) (fun hc8_ => ?_)
 ·
  replace h := h.1 hc8_
  refine W_seq_k fun K9 k9 => ?_
  refine W_region [16, 6, 7] rfl (Ops_step (R_move rfl) rfl rfl (Ops_step (R_assign rfl) rfl rfl (Ops_step (R_assign rfl) rfl rfl ?_)))
  refine Ops_nil ?_
  refine then_n (k9 _ _ ?_)
  clear k9 K9
  refine W_keepB [6, 7] fun B_ b_ => ?_
  simp only [e_, Nat.reduceAdd, Nat.reduceBEq] at b_
  subst b_
  refine W_ret ?_
  refine then_ret ?_
  clear k3 K3
  refine ⟨_, ⟨_, _, rfl, rfl, ⟨_, _, rfl, rfl, rfl⟩⟩, ?_⟩
  exact ⟨none, 0, [], r5_0, _, _, rfl, hI, OwnS.nil, h⟩
 ·
  replace h := h.2 hc8_
  refine W_skip ?_
  refine then_n (k3 _ _ ?_)
  clear k3 K3
  refine W_seq_k fun K11 k11 => ?_
  refine W_region [17, 18, 19, 20, 21, 22, 23, 24, 9] rfl (Ops_step (R_fieldAddr fo32_0 rfl) rfl rfl ?_)
  refine Ops_step (R_loadB (v := vi x2.Conn_) ag3 rfl ht2_.blk rfl) rfl rfl ?_
  refine Ops_step (R_fieldAddr fo32_1 rfl) rfl rfl ?_
  refine Ops_step (R_loadB (v := vi x2.Seq_) ag3 rfl ht2_.blk rfl) rfl rfl ?_
  refine Ops_step (R_fieldAddr fo32_2 rfl) rfl rfl ?_
  refine Ops_step (R_loadB (v := vi x2.Ack_) ag3 rfl ht2_.blk rfl) rfl rfl ?_
  refine Ops_to (R_buildSlice el56 zr3 (by decide) (by decide) rfl rfl) rfl rfl ?_
  rintro _ w12_ ⟨b12_, rfl, hb12_, hB12_, hF12_⟩
  have ho12_ : OwnS w.heap.size 3 Gh.no H5_ _ (some ⟨b12_, 0, none⟩) 3 ([x2.Conn_, x2.Seq_, x2.Ack_] : List Int) := OwnS.ofBlk hI.st hb12_ hB12_ (all2_sc' _) rfl (by have := hI.size; omega) (by show 3 ≤ maxLen; decide)
  replace hI := hI.fr0 hF12_
  replace ht2_ := ht2_.fr0 hF12_
  clear hF12_ hB12_
  refine Exists.elim (ho12_.lend hI.st (Le.no _)) fun Hb13_0_ hb13_0_ => ?_
  refine Ops_call (C_func bd54 rfl) rfl rfl ?_
  refine (sealskinref02_Put_ok (x0 := []) (x1 := ([x2.Conn_, x2.Seq_, x2.Ack_] : List Int)) hb13_0_.1 (hg.up (hI.le.trans hb13_0_.2.1)) (Nat.le_refl 0) Sl.nil (Nat.le_refl _) hb13_0_.2.2 h).mono ?_
  rintro _ w13_ ⟨A13_0, c13_0, r13_0, L13_, H13_, rfl, hI13_, ho13_0, h⟩
  refine Exists.elim (hI.callB hb13_0_.2.1 hI13_ (by simp)) fun L130_ h13_ => Exists.elim h13_ fun H130_ h13_ => ?_
  have hz13_ := hI.size
  replace hI := h13_.1
  have u13_ := h13_.2.1
  have hl13_ := h13_.2.2.1
  have hh13_ := h13_.2.2.2
  clear h13_
  replace hs0 := hs0.up u13_.hh
  replace hs2_1 := hs2_1.up u13_.hh
  replace ht2_ := ht2_.up u13_ (by simp)
  replace ho13_0 := OwnS.backS ho13_0 hz13_ hh13_
  clear hI13_ u13_ hl13_
  refine ⟨_, rfl, ?_⟩
  refine Ops_step (R_assign rfl) rfl rfl ?_
  refine Ops_nil ?_
  refine then_n (k11 _ _ ?_)
  clear k11 K11
  refine W_keepB [0, 1, 5, 9] fun B_ b_ => ?_
  simp only [e_, Nat.reduceAdd, Nat.reduceBEq] at b_
  subst b_
  refine W_seq_k fun K15 k15 => ?_
  refine W_drawF [26, 27, 28, 29, 30, 31, 32, 33, 34, 25, 35, 36, 10, 11] [(0, true), (1, true), (2, true), (3, true), (5, true), (6, true), (7, true), (4, false), (8, false), (9, true), (10, true), (11, true), (12, true), (13, true)] TFtG.hm rfl (by kernel_rfl) fun ops16_ w16_ hops16_ hF16_ => ?_
  replace hI := hI.fr0 hF16_
  replace ht2_ := ht2_.fr0 hF16_
  replace ho13_0 := ho13_0.fr0 hF16_
  clear hF16_
  refine HSp (R_move rfl) rfl rfl (HSp (R_fieldAddr fo32_1 rfl) rfl rfl ?_)
  refine HS_loadB (v := vi x2.Seq_) ag3 rfl ht2_.blk rfl rfl rfl ?_
  refine HSp (R_move rfl) rfl rfl (HSp (R_move rfl) rfl rfl (HSp (R_fieldAddr fo32_3 rfl) rfl rfl ?_))
  refine HS_loadB (v := .slice A2_1 x2.Body_.length c2_1) ag30 rfl ht2_.blk rfl rfl rfl ?_
  refine HS_call [7] _ rfl (by rw [hops16_]; kernel_rfl) (C_func bd51 rfl) rfl rfl ?_
  refine (sealskinref13_once_ok (x0 := x2.Seq_) (x1 := x1) hI.st (hg.up hI.le)  h).mono ?_
  rintro _ w17_ ⟨r17_0, L17_, H17_, rfl, hI17_, h⟩
  refine Exists.elim (hI.call hI17_ (by simp)) fun L170_ h17_ => ?_
  have hz17_ := hI.size
  replace hI := h17_.1
  have u17_ := h17_.2.1
  have hl17_ := h17_.2.2
  clear h17_
  replace hs0 := hs0.up u17_.hh
  replace hs2_1 := hs2_1.up u17_.hh
  replace ht2_ := ht2_.up u17_ (by simp)
  replace ho13_0 := ho13_0.up (Le.refl _) u17_ (by simp)
  clear hI17_ u17_ hl17_
  refine ⟨_, rfl, ⟨(ht2_.blk.at_ rfl), trivial⟩, ?_⟩
  refine Exists.elim (ho13_0.lend hI.st (Le.no _)) fun Hb18_0_ hb18_0_ => ?_
  refine HS_call [] _ rfl (by rw [hops16_]; kernel_rfl) (C_func bd61 rfl) rfl rfl ?_
  refine (sealskinref08_Seal_ok (x0 := x0) (x1 := r17_0) (x2 := r13_0) (x3 := x2.Body_) hb18_0_.1 (hg.up (hI.le.trans hb18_0_.2.1)) hc0 (hs0.up hb18_0_.2.1) ho13_0.cap hb18_0_.2.2 hc2_1 (hs2_1.up hb18_0_.2.1) h).mono ?_
  have hlo18_0_ho13_0 := ho13_0.lt
  rintro _ w18_ ⟨A18_0, c18_0, r18_0, r18_1, L18_, H18_, rfl, hI18_, ho18_0, h⟩
  refine Exists.elim (hI.callB hb18_0_.2.1 hI18_ (by simp)) fun L180_ h18_ => Exists.elim h18_ fun H180_ h18_ => ?_
  have hz18_ := hI.size
  replace hI := h18_.1
  have u18_ := h18_.2.1
  have hl18_ := h18_.2.2.1
  have hh18_ := h18_.2.2.2
  clear h18_
  replace ht2_ := ht2_.up u18_ (by simp)
  replace ho13_0 := ho13_0.up (Le.refl _) u18_ (by simp)
  have hsp18_0_ho13_0 : ∀ i ∈ bk A18_0 c18_0, i ∉ bk A13_0 c13_0 := sep_new ho18_0.off hlo18_0_ho13_0
  replace ho18_0 := OwnS.backS ho18_0 hz18_ hh18_
  clear hI18_ u18_ hl18_
  refine ⟨_, rfl, trivial, ?_⟩
  refine Exists.elim (ho18_0.freeze hI) fun L19_ h19_ => Exists.elim h19_ fun H19_ h19_ => ?_
  replace hI := h19_.1
  have u19_ := h19_.2.1
  have hs19_ := h19_.2.2.1 (Le.no _)
  have hc19_ := ho18_0.cap
  replace ht2_ := ht2_.up u19_ (ht2_.sep ho18_0 (by decide))
  replace ho13_0 := ho13_0.up (Le.refl _) u19_ (sep_sym hsp18_0_ho13_0)
  clear h19_ u19_ ho18_0
  refine HSp (R_move rfl) rfl rfl ?_
  refine HSp (R_extract (v := .slice A18_0 r18_0.length c18_0) rfl rfl) rfl rfl ?_
  refine HSp (R_extract (v := vi r18_1) rfl rfl) rfl rfl ?_
  refine HSp (R_assign rfl) rfl rfl (HSp (R_assign rfl) rfl rfl ?_)
  refine HS_nil ?_
  clear hops16_
  refine then_n (k15 _ _ ?_)
  clear k15 K15
  refine W_keepB [9, 10, 11] fun B_ b_ => ?_
  simp only [e_, Nat.reduceAdd, Nat.reduceBEq] at b_
  subst b_
  refine W_seq_k fun K21 k21 => ?_
  refine W_seq_k fun K22 k22 => ?_
  refine W_region [37, 38] rfl (Ops_step (R_move rfl) rfl rfl (Ops_step (R_neq rfl rfl) rfl rfl ?_))
  refine Ops_nil ?_
  refine then_n (k22 _ _ ?_)
  clear k22 K22
  refine W_if rfl (fun hc23_ => ?_) (fun hc23_ => ?_)
  ·
   replace h := h.1 hc23_
   refine W_seq_k fun K24 k24 => ?_
   refine W_region [39, 6, 7] rfl (Ops_step (R_move rfl) rfl rfl (Ops_step (R_assign rfl) rfl rfl (Ops_step (R_assign rfl) rfl rfl ?_)))
   refine Ops_nil ?_
   refine then_n (k24 _ _ ?_)
   clear k24 K24
   refine W_keepB [6, 7] fun B_ b_ => ?_
   simp only [e_, Nat.reduceAdd, Nat.reduceBEq] at b_
   subst b_
   refine W_ret ?_
   refine then_ret ?_
   clear k21 K21
   refine ⟨_, ⟨_, _, rfl, rfl, ⟨_, _, rfl, rfl, rfl⟩⟩, ?_⟩
   exact ⟨none, 0, [], r18_1, _, _, rfl, hI, OwnS.nil, h⟩
  ·
   replace h := h.2 hc23_
   refine W_skip ?_
   refine then_n (k21 _ _ ?_)
   clear k21 K21
   refine W_seq_k fun K26 k26 => ?_
   refine W_region [40, 41, 42, 6, 7] rfl (Ops_step (R_move rfl) rfl rfl (Ops_step (R_move rfl) rfl rfl ?_))
   have hk28_ := h.1
   replace h := h.2
   refine Ops_to (X_append (α := UInt8) (xs := r13_0) (ys := r18_0) el30 rfl rfl ho13_0 (Srcs.sc (Srcs.ofSl Tryd.underlying30 (hs19_.up hI.sub) hI.st (by decide))) hI.st hk28_ (by decide) hI.size) rfl rfl ?_
   rintro _ w27_ ⟨A27_, c27_, rfl, ho27_, hF27_, hbk27_⟩
   clear hbk27_
   replace hI := hI.tok hF27_ ho13_0.out (ho13_0.new (Nat.le_refl _))
   clear hF27_ ho13_0
   refine Ops_step (R_assign rfl) rfl rfl (Ops_step (R_assign rfl) rfl rfl ?_)
   refine Ops_nil ?_
   refine then_n (k26 _ _ ?_)
   clear k26 K26
   refine W_keepB [6, 7] fun B_ b_ => ?_
   simp only [e_, Nat.reduceAdd, Nat.reduceBEq] at b_
   subst b_
   refine W_ret ?_
   refine ⟨_, ⟨_, _, rfl, rfl, ⟨_, _, rfl, rfl, rfl⟩⟩, ?_⟩
   exact ⟨A27_, c27_, (r13_0 ++ r18_0), 0, _, _, rfl, hI, (ho27_.hl (Le.no _)), h⟩

end Go.Proofs.YtbjmngacjdcddaaDoor

