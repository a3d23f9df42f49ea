/- What is shown of the program on the way to the law. -/
import Derived.Test.YtbjmngacjdcddaaDoorZB2
import Derived.Test.YtbjmngacjdcddaaDoorZB20
import Derived.Test.YtbjmngacjdcddaaDoorProg
set_option linter.unusedVariables false
set_option linter.unusedSimpArgs false
set_option maxHeartbeats 4000000
namespace Go.Proofs.YtbjmngacjdcddaaDoor
open Go Go.Sx Go.Lx
namespace TFmBack
theorem hm : Tryd.prog.follows .mixedOrders = true := by kernel_rfl
theorem ag25 : aggB Tryd.prog 25 = some true := by kernel_rfl
theorem bd12 : bodied Tryd.prog 12 = true := by kernel_rfl
theorem bd13 : bodied Tryd.prog 13 = true := by kernel_rfl
theorem bd23 : bodied Tryd.prog 23 = true := by kernel_rfl
theorem bd26 : bodied Tryd.prog 26 = true := by kernel_rfl
theorem bd32 : bodied Tryd.prog 32 = true := by kernel_rfl
theorem bd33 : bodied Tryd.prog 33 = true := by kernel_rfl
theorem sz25 : sz Tryd.prog 25 = some 9 := by kernel_rfl
theorem zr25 : zr Tryd.prog 25 = some ([.int .i64 0] ++ [.int .i64 0] ++ [.int .i64 0] ++ [.int .i64 0] ++ [.int .i64 0] ++ [.int .i64 0] ++ [.int .i64 0] ++ [.int .i64 0] ++ [.slice none 0 0]) := by kernel_rfl
end TFmBack
open TFmBack
theorem sealskinlaw13_FrameBack_ok {G : Gh} {w : World} (hS : St G w) (hg : GL G) {l0 : List Value} {x0 : api_Msg} (hr0 : Rp.cs G x0 l0) {A1 : Option Addr} {c1 : Nat} {x1 : List UInt8} (hc1 : x1.length ≤ c1) (hs1 : Sl G A1 x1) {Q : Bool → Prop} (h : sealskinlaw13_FrameBack x0 x1 Q) : Calls Tryd.prog 10 #[.agg l0.toArray, .slice A1 x1.length c1] w fun e w2 => ∃ (r0 : Bool) (L H : Gh), e = .returned (.bool r0) ∧ Inv [] G w L H w2 ∧ Q r0 := by
 unfold sealskinlaw13_FrameBack at h
 have hI := Inv.start (M := []) hS
 refine calls_W 65 Tryd.func10 rfl Tryd.ntmps10 rfl [.tmp 4] rfl ?_
 obtain ⟨A0_1, c0_1, rfl, ⟨hc0_1, hs0_1⟩⟩ := hr0
 refine W_seq_k fun K1 k1 => ?_
 refine W_region [2, 4] rfl ?_
 have hI0_ := hI
 refine Ops_to (R_box rfl) rfl rfl ?_
 rintro _ w2_ ⟨b2_, rfl, hb2_, hB2_, hF2_⟩
 replace hI := hI.fr0 hF2_
 have ht2_ : Tok G _ b2_ 25 ([vi x0.Kind_, vi x0.Who_, vi x0.Seq_, vi x0.Rev_, vi x0.At_, vi x0.N_, vi x0.Target_, vi x0.Err_, .slice A0_1 x0.Edit_.length c0_1]) := ⟨hB2_.to rfl, Out.ge hI0_.st (Nat.le_of_eq hb2_.symm)⟩
 have hge_b2_ : w.heap.size ≤ b2_ := hb2_ ▸ hI0_.size
 clear hB2_ hb2_ hI0_ hF2_
 refine Ops_step (R_assign rfl) rfl rfl ?_
 refine Ops_nil ?_
 refine then_n (k1 _ _ ?_)
 clear k1 K1
 refine W_seq_k fun K3 k3 => ?_
 refine ex_ h fun J4_ hr4_ h => ?_
 refine W_seq_join [1, 2] [20] (fun vals_ w2 => ∃ (x20_4 : Bool) (L H : Gh), vals_ = [.bool x20_4] ∧ J4_ x20_4 ∧ Inv [] G w L H w2 ∧ Le Gh.no L ∧ Le G H ∧ Tok H w2 b2_ 25 ([vi x0.Kind_, vi x0.Who_, vi x0.Seq_, vi x0.Rev_, vi x0.At_, vi x0.N_, vi x0.Target_, vi x0.Err_, .slice A0_1 x0.Edit_.length c0_1]) ∧ True) (fun B_ b_ => ?_) (fun B_ b_ => ?_)
 ·
  simp only [e_, Nat.reduceAdd, Nat.reduceBEq] at b_
  subst b_
  clear hr4_
  have hll4_ := Le.refl Gh.no
  have hhh4_ := Le.refl G
  refine W_region [13, 14, 15, 16, 17, 18, 19, 20] rfl (Ops_step (R_loadN ag25 sz25 rfl ht2_.blk (Nat.le_of_ble_eq_true rfl)) rfl rfl ?_)
  refine Ops_call (C_func bd12 rfl) rfl rfl ?_
  refine (sealskinlaw13_light_ok (x0 := x0) hI.st (hg.up hI.le) ⟨A0_1, c0_1, rfl, ⟨hc0_1, hs0_1⟩⟩ h).mono ?_
  rintro _ w5_ ⟨r5_0, L5_, H5_, rfl, hI5_, h⟩
  refine Exists.elim (hI.call hI5_ (by simp)) fun L50_ h5_ => ?_
  have hz5_ := hI.size
  replace hI := h5_.1
  have u5_ := h5_.2.1
  have hl5_ := h5_.2.2
  clear h5_
  replace hs1 := hs1.up u5_.hh
  replace hs0_1 := hs0_1.up u5_.hh
  replace ht2_ := ht2_.up u5_ (by simp)
  replace hll4_ := hll4_.trans u5_.ll
  replace hhh4_ := hhh4_.trans u5_.hh
  clear hI5_ u5_ hl5_
  refine ⟨_, rfl, ?_⟩
  refine Ops_step (R_not rfl) rfl rfl (Ops_step (R_move rfl) rfl rfl ?_)
  refine Ops_splitB 16 rfl (fun hg6_ => ?_) (fun hg6_ => ?_)
  ·
   replace h := h.1 hg6_
   refine Ops_pass rfl rfl (Ops_pass rfl rfl (Ops_pass rfl rfl (Ops_step (R_pick_true rfl rfl) rfl rfl ?_)))
   refine Ops_nil ?_
   refine then_n ?_
   exact ⟨_, rfl, ⟨true, _, _, rfl, h, hI, hll4_, hhh4_, ht2_, trivial⟩, ⟨rfl, rfl, trivial⟩⟩
  ·
   replace h := h.2 hg6_
   refine Ops_step (R_move rfl) rfl rfl (Ops_step (R_len Tryd.underlying30 rfl rfl) rfl rfl (Ops_step (R_gtr rfl rfl) rfl rfl (Ops_step (R_pick_false rfl rfl) rfl rfl ?_)))
   refine Ops_nil ?_
   refine then_n ?_
   exact ⟨_, rfl, ⟨(decide ((x1.length : Int) > 16384)), _, _, rfl, h, hI, hll4_, hhh4_, ht2_, trivial⟩, ⟨rfl, rfl, trivial⟩⟩
 ·
  simp only [e_, Nat.reduceAdd, Nat.reduceBEq] at b_
  subst b_
  clear h
  clear ht2_
  rintro _ w4_ ⟨x20_4, L4_, H4_, rfl, hJ4_, hI4_, hll4_, hhh4_, ht2_, -⟩
  replace hI := hI4_
  clear hI4_
  have h := hr4_ x20_4 hJ4_
  clear hr4_ hJ4_
  replace hs1 := hs1.up hhh4_
  replace hs0_1 := hs0_1.up hhh4_
  refine W_cond rfl (fun hc7_ => ?_) (fun hc7_ => ?_)
  ·
   replace h := h.1 hc7_
   refine W_seq_k fun K8 k8 => ?_
   refine W_region [21, 4] rfl ?_
   refine Ops_call (C_func bd13 rfl) rfl rfl ?_
   refine (sealskinlaw13_awake_ok  hI.st (hg.up hI.le)  h).mono ?_
   rintro _ w9_ ⟨r9_0, L9_, H9_, rfl, hI9_, h⟩
   refine Exists.elim (hI.call hI9_ (by simp)) fun L90_ h9_ => ?_
   have hz9_ := hI.size
   replace hI := h9_.1
   have u9_ := h9_.2.1
   have hl9_ := h9_.2.2
   clear h9_
   clear hI9_ u9_ hl9_
   refine ⟨_, rfl, ?_⟩
   refine Ops_step (R_assign rfl) rfl rfl ?_
   refine Ops_nil ?_
   refine then_n (k8 _ _ ?_)
   clear k8 K8
   refine W_ret ?_
   refine then_ret ?_
   clear k3 K3
   refine ⟨_, ⟨_, _, rfl, rfl, rfl⟩, ?_⟩
   exact ⟨r9_0, _, _, rfl, hI, h⟩
  ·
   replace h := h.2 hc7_
   refine W_skip ?_
   refine then_n (k3 _ _ ?_)
   clear k3 K3
   refine ex_ h fun J10_ hr10_ h => ?_
   refine W_seq_join [1] [] (fun vals_ w2 => ∃  (L H : Gh), vals_ = [] ∧ J10_ ∧ Inv [] G w L H w2 ∧ Le L4_ L ∧ Le H4_ H ∧ True) (fun B_ b_ => ?_) (fun B_ b_ => ?_)
   ·
    simp only [e_, Nat.reduceAdd, Nat.reduceBEq] at b_
    subst b_
    clear hr10_
    have hll10_ := Le.refl L4_
    have hhh10_ := Le.refl H4_
    refine W_seq_k fun K11 k11 => ?_
    refine W_region [23, 24, 22, 25, 26, 5, 6] rfl (Ops_step (R_loadN ag25 sz25 rfl ht2_.blk (Nat.le_of_ble_eq_true rfl)) rfl rfl ?_)
    refine Ops_call (C_func bd23 rfl) rfl rfl ?_
    refine (frame_Put_ok (x0 := x0) hI.st (hg.up hI.le) ⟨A0_1, c0_1, rfl, ⟨hc0_1, hs0_1⟩⟩ h).mono ?_
    rintro _ w12_ ⟨A12_0, c12_0, r12_0, r12_1, L12_, H12_, rfl, hI12_, ho12_0, h⟩
    refine Exists.elim (hI.call hI12_ (by simp)) fun L120_ h12_ => ?_
    have hz12_ := hI.size
    replace hI := h12_.1
    have u12_ := h12_.2.1
    have hl12_ := h12_.2.2
    clear h12_
    replace hs1 := hs1.up u12_.hh
    replace hs0_1 := hs0_1.up u12_.hh
    replace ht2_ := ht2_.up u12_ (by simp)
    replace hll10_ := hll10_.trans u12_.ll
    replace hhh10_ := hhh10_.trans u12_.hh
    replace ho12_0 := OwnS.backS ho12_0 hz12_ (Le.refl _)
    clear hI12_ u12_ hl12_
    refine ⟨_, rfl, ?_⟩
    refine Exists.elim (ho12_0.freeze hI) fun L13_ h13_ => Exists.elim h13_ fun H13_ h13_ => ?_
    replace hI := h13_.1
    have u13_ := h13_.2.1
    have hs13_ := h13_.2.2.1 (Le.no _)
    have hc13_ := ho12_0.cap
    replace hs1 := hs1.up u13_.hh
    replace hs0_1 := hs0_1.up u13_.hh
    replace ht2_ := ht2_.up u13_ (ht2_.sep ho12_0 (by decide))
    replace hll10_ := hll10_.trans u13_.ll
    replace hhh10_ := hhh10_.trans u13_.hh
    clear h13_ u13_ ho12_0
    refine Ops_step (R_move rfl) rfl rfl ?_
    refine Ops_step (R_extract (v := .slice A12_0 r12_0.length c12_0) rfl rfl) rfl rfl ?_
    refine Ops_step (R_extract (v := vi r12_1) rfl rfl) rfl rfl ?_
    refine Ops_step (R_assign rfl) rfl rfl (Ops_step (R_assign rfl) rfl rfl ?_)
    refine Ops_nil ?_
    refine then_n (k11 _ _ ?_)
    clear k11 K11
    refine W_keepB [1, 2, 5, 6] fun B_ b_ => ?_
    simp only [e_, Nat.reduceAdd, Nat.reduceBEq] at b_
    subst b_
    refine W_seq_k fun K15 k15 => ?_
    refine W_region [27, 28] rfl (Ops_step (R_move rfl) rfl rfl (Ops_step (R_eql rfl rfl) rfl rfl ?_))
    refine Ops_nil ?_
    refine then_n (k15 _ _ ?_)
    clear k15 K15
    refine W_if rfl (fun hc16_ => ?_) (fun hc16_ => ?_)
    ·
     replace h := h.1 hc16_
     refine W_seq_k fun K17 k17 => ?_
     refine W_region [30, 31, 29, 32, 33, 7, none, 8] rfl (Ops_step (R_move rfl) rfl rfl ?_)
     refine Ops_call (C_func bd32 rfl) rfl rfl ?_
     refine (frame_Get_ok (x0 := r12_0) hI.st (hg.up hI.le) hc13_ (hs13_.up hI.sub) h).mono ?_
     rintro _ w18_ ⟨l18_0, r18_0, r18_1, L18_, H18_, rfl, hI18_, hr18_0, h⟩
     refine Exists.elim (hI.call hI18_ (by simp)) fun L180_ h18_ => ?_
     have hz18_ := hI.size
     replace hI := h18_.1
     have u18_ := h18_.2.1
     have hl18_ := h18_.2.2
     clear h18_
     replace hs1 := hs1.up u18_.hh
     replace hs0_1 := hs0_1.up u18_.hh
     replace ht2_ := ht2_.up u18_ (by simp)
     replace hll10_ := hll10_.trans u18_.ll
     replace hhh10_ := hhh10_.trans u18_.hh
     obtain ⟨A18_0_1, c18_0_1, rfl, ⟨hc18_0_1, hs18_0_1⟩⟩ := hr18_0
     clear hI18_ u18_ hl18_
     refine ⟨_, rfl, ?_⟩
     refine Ops_step (R_move rfl) rfl rfl ?_
     refine Ops_step (R_extract (v := .agg #[vi r18_0.Kind_, vi r18_0.Who_, vi r18_0.Seq_, vi r18_0.Rev_, vi r18_0.At_, vi r18_0.N_, vi r18_0.Target_, vi r18_0.Err_, .slice A18_0_1 r18_0.Edit_.length c18_0_1]) rfl rfl) rfl rfl ?_
     refine Ops_step (R_extract (v := vi r18_1) rfl rfl) rfl rfl ?_
     have hlo19_b2_ := ht2_.blk.lt
     have hI0_ := hI
     refine Ops_to (R_alloc zr25) rfl rfl ?_
     rintro _ w19_ ⟨b19_, rfl, hb19_, hB19_, hF19_⟩
     replace hI := hI.fr0 hF19_
     replace ht2_ := ht2_.fr0 hF19_
     have ht19_ : Tok H18_ _ b19_ 25 ([vi 0, vi 0, vi 0, vi 0, vi 0, vi 0, vi 0, vi 0, .slice none 0 0]) := ⟨hB19_.to rfl, Out.ge hI0_.st (Nat.le_of_eq hb19_.symm)⟩
     have hge_b19_ : w.heap.size ≤ b19_ := hb19_ ▸ hI0_.size
     have hne19_b2_ : b2_ ≠ b19_ := fun e_ => absurd hlo19_b2_ (by omega)
     clear hB19_ hb19_ hI0_ hF19_
     refine Ops_to0 (R_storeN sz25 rfl rfl rfl ht19_.blk (Nat.le_of_ble_eq_true rfl) rfl) rfl ?_
     rintro _ w20_ ⟨hB20_, hF20_⟩
     replace hI := hI.tok hF20_ (out1 ht19_.out) (new1 hge_b19_)
     replace ht2_ := ht2_.fr hF20_ (ne1 hne19_b2_)
     replace ht19_ : Tok H18_ _ b19_ 25 ([vi r18_0.Kind_, vi r18_0.Who_, vi r18_0.Seq_, vi r18_0.Rev_, vi r18_0.At_, vi r18_0.N_, vi r18_0.Target_, vi r18_0.Err_, .slice A18_0_1 r18_0.Edit_.length c18_0_1]) := ⟨hB20_, ht19_.out⟩
     clear hF20_ hB20_
     refine Ops_step (R_assign rfl) rfl rfl ?_
     refine Ops_nil ?_
     refine then_n (k17 _ _ ?_)
     clear k17 K17
     refine W_keepB [1, 2, 7, 8] fun B_ b_ => ?_
     simp only [e_, Nat.reduceAdd, Nat.reduceBEq] at b_
     subst b_
     refine ex_ h fun J22_ hr22_ h => ?_
     refine W_seq_join [1] [41] (fun vals_ w2 => ∃ (x41_22 : Bool) (L H : Gh), vals_ = [.bool x41_22] ∧ J22_ x41_22 ∧ Inv [] G w L H w2 ∧ Le L180_ L ∧ Le H18_ H ∧ True) (fun B_ b_ => ?_) (fun B_ b_ => ?_)
     ·
      simp only [e_, Nat.reduceAdd, Nat.reduceBEq] at b_
      subst b_
      clear hr22_
      have hll22_ := Le.refl L180_
      have hhh22_ := Le.refl H18_
      refine W_region [34, 35, 36, 37, 38, 39, 40, 41] rfl (Ops_step (R_move rfl) rfl rfl (Ops_step (R_neq rfl rfl) rfl rfl (Ops_step (R_move rfl) rfl rfl ?_)))
      refine Ops_split 36 rfl (fun hg23_ => ?_) (fun hg23_ => ?_)
      ·
       replace h := h.1 hg23_
       refine Ops_pass rfl rfl (Ops_pass rfl rfl (Ops_pass rfl rfl (Ops_pass rfl rfl (Ops_step (R_pick_true rfl rfl) rfl rfl ?_))))
       refine Ops_nil ?_
       refine then_n ?_
       exact ⟨_, rfl, ⟨true, _, _, rfl, h, hI, hll22_, hhh22_, trivial⟩, ⟨rfl, trivial⟩⟩
      ·
       replace h := h.2 hg23_
       refine Ops_step (R_loadN ag25 sz25 rfl ht2_.blk (Nat.le_of_ble_eq_true rfl)) rfl rfl (Ops_step (R_loadN ag25 sz25 rfl ht19_.blk (Nat.le_of_ble_eq_true rfl)) rfl rfl ?_)
       refine Ops_call (C_func bd33 rfl) rfl rfl ?_
       refine (sealskinref13_Same_ok (x0 := x0) (x1 := r18_0) hI.st (hg.up hI.le) ⟨A0_1, c0_1, rfl, ⟨hc0_1, hs0_1⟩⟩ ⟨A18_0_1, c18_0_1, rfl, ⟨hc18_0_1, hs18_0_1⟩⟩ h).mono ?_
       rintro _ w24_ ⟨r24_0, L24_, H24_, rfl, hI24_, h⟩
       refine Exists.elim (hI.call hI24_ (by simp)) fun L240_ h24_ => ?_
       have hz24_ := hI.size
       replace hI := h24_.1
       have u24_ := h24_.2.1
       have hl24_ := h24_.2.2
       clear h24_
       replace hs1 := hs1.up u24_.hh
       replace hll10_ := hll10_.trans u24_.ll
       replace hhh10_ := hhh10_.trans u24_.hh
       replace hll22_ := hll22_.trans u24_.ll
       replace hhh22_ := hhh22_.trans u24_.hh
       clear hI24_ u24_ hl24_
       refine ⟨_, rfl, ?_⟩
       refine Ops_step (R_not rfl) rfl rfl (Ops_step (R_pick_false rfl rfl) rfl rfl ?_)
       refine Ops_nil ?_
       refine then_n ?_
       exact ⟨_, rfl, ⟨(!r24_0), _, _, rfl, h, hI, hll22_, hhh22_, trivial⟩, ⟨rfl, trivial⟩⟩
     ·
      simp only [e_, Nat.reduceAdd, Nat.reduceBEq] at b_
      subst b_
      clear h
      rintro _ w22_ ⟨x41_22, L22_, H22_, rfl, hJ22_, hI22_, hll22_, hhh22_, -⟩
      replace hI := hI22_
      clear hI22_
      have h := hr22_ x41_22 hJ22_
      clear hr22_ hJ22_
      replace hs1 := hs1.up hhh22_
      replace hll10_ := hll10_.trans hll22_
      replace hhh10_ := hhh10_.trans hhh22_
      refine W_cond rfl (fun hc25_ => ?_) (fun hc25_ => ?_)
      ·
       replace h := h.1 hc25_
       refine W_seq_k fun K26 k26 => ?_
       refine W_region [4] rfl (Ops_step (R_assign rfl) rfl rfl ?_)
       refine Ops_nil ?_
       refine then_n (k26 _ _ ?_)
       clear k26 K26
       refine W_ret ?_
       refine then_ret ?_
       refine ⟨_, ⟨_, _, rfl, rfl, rfl⟩, ?_⟩
       exact ⟨false, _, _, rfl, hI, h⟩
      ·
       replace h := h.2 hc25_
       refine W_skip ?_
       refine then_n ?_
       exact ⟨_, rfl, ⟨_, _, rfl, h, hI, hll10_, hhh10_, trivial⟩, ⟨rfl, trivial⟩⟩
    ·
     replace h := h.2 hc16_
     refine W_skip ?_
     refine then_n ?_
     exact ⟨_, rfl, ⟨_, _, rfl, h, hI, hll10_, hhh10_, trivial⟩, ⟨rfl, trivial⟩⟩
   ·
    simp only [e_, Nat.reduceAdd, Nat.reduceBEq] at b_
    subst b_
    clear h
    rintro _ w10_ ⟨L10_, H10_, rfl, hJ10_, hI10_, hll10_, hhh10_, -⟩
    replace hI := hI10_
    clear hI10_
    have h := hr10_ hJ10_
    clear hr10_ hJ10_
    replace hs1 := hs1.up hhh10_
    refine W_seq_k fun K27 k27 => ?_
    refine W_region [43, 44, 42, 45, 46, 9, none, 10] rfl (Ops_step (R_move rfl) rfl rfl ?_)
    refine Ops_call (C_func bd32 rfl) rfl rfl ?_
    refine (frame_Get_ok (x0 := x1) hI.st (hg.up hI.le) hc1 hs1 h).mono ?_
    rintro _ w28_ ⟨l28_0, r28_0, r28_1, L28_, H28_, rfl, hI28_, hr28_0, h⟩
    refine Exists.elim (hI.call hI28_ (by simp)) fun L280_ h28_ => ?_
    have hz28_ := hI.size
    replace hI := h28_.1
    have u28_ := h28_.2.1
    have hl28_ := h28_.2.2
    clear h28_
    replace hs1 := hs1.up u28_.hh
    obtain ⟨A28_0_1, c28_0_1, rfl, ⟨hc28_0_1, hs28_0_1⟩⟩ := hr28_0
    clear hI28_ u28_ hl28_
    refine ⟨_, rfl, ?_⟩
    refine Ops_step (R_move rfl) rfl rfl ?_
    refine Ops_step (R_extract (v := .agg #[vi r28_0.Kind_, vi r28_0.Who_, vi r28_0.Seq_, vi r28_0.Rev_, vi r28_0.At_, vi r28_0.N_, vi r28_0.Target_, vi r28_0.Err_, .slice A28_0_1 r28_0.Edit_.length c28_0_1]) rfl rfl) rfl rfl ?_
    refine Ops_step (R_extract (v := vi r28_1) rfl rfl) rfl rfl ?_
    have hI0_ := hI
    refine Ops_to (R_alloc zr25) rfl rfl ?_
    rintro _ w29_ ⟨b29_, rfl, hb29_, hB29_, hF29_⟩
    replace hI := hI.fr0 hF29_
    have ht29_ : Tok H28_ _ b29_ 25 ([vi 0, vi 0, vi 0, vi 0, vi 0, vi 0, vi 0, vi 0, .slice none 0 0]) := ⟨hB29_.to rfl, Out.ge hI0_.st (Nat.le_of_eq hb29_.symm)⟩
    have hge_b29_ : w.heap.size ≤ b29_ := hb29_ ▸ hI0_.size
    clear hB29_ hb29_ hI0_ hF29_
    refine Ops_to0 (R_storeN sz25 rfl rfl rfl ht29_.blk (Nat.le_of_ble_eq_true rfl) rfl) rfl ?_
    rintro _ w30_ ⟨hB30_, hF30_⟩
    replace hI := hI.tok hF30_ (out1 ht29_.out) (new1 hge_b29_)
    replace ht29_ : Tok H28_ _ b29_ 25 ([vi r28_0.Kind_, vi r28_0.Who_, vi r28_0.Seq_, vi r28_0.Rev_, vi r28_0.At_, vi r28_0.N_, vi r28_0.Target_, vi r28_0.Err_, .slice A28_0_1 r28_0.Edit_.length c28_0_1]) := ⟨hB30_, ht29_.out⟩
    clear hF30_ hB30_
    refine Ops_step (R_assign rfl) rfl rfl ?_
    refine Ops_nil ?_
    refine then_n (k27 _ _ ?_)
    clear k27 K27
    refine W_seq_k fun K31 k31 => ?_
    refine W_seq_k fun K32 k32 => ?_
    refine W_region [47, 48] rfl (Ops_step (R_move rfl) rfl rfl (Ops_step (R_neq rfl rfl) rfl rfl ?_))
    refine Ops_nil ?_
    refine then_n (k32 _ _ ?_)
    clear k32 K32
    refine W_keepB [1, 9, 48] fun B_ b_ => ?_
    simp only [e_, Nat.reduceAdd, Nat.reduceBEq] at b_
    subst b_
    refine W_if rfl (fun hc34_ => ?_) (fun hc34_ => ?_)
    ·
     replace h := h.1 hc34_
     refine W_seq_k fun K35 k35 => ?_
     refine W_region [49, 4] rfl ?_
     refine Ops_call (C_func bd13 rfl) rfl rfl ?_
     refine (sealskinlaw13_awake_ok  hI.st (hg.up hI.le)  h).mono ?_
     rintro _ w36_ ⟨r36_0, L36_, H36_, rfl, hI36_, h⟩
     refine Exists.elim (hI.call hI36_ (by simp)) fun L360_ h36_ => ?_
     have hz36_ := hI.size
     replace hI := h36_.1
     have u36_ := h36_.2.1
     have hl36_ := h36_.2.2
     clear h36_
     clear hI36_ u36_ hl36_
     refine ⟨_, rfl, ?_⟩
     refine Ops_step (R_assign rfl) rfl rfl ?_
     refine Ops_nil ?_
     refine then_n (k35 _ _ ?_)
     clear k35 K35
     refine W_ret ?_
     refine then_ret ?_
     clear k31 K31
     refine ⟨_, ⟨_, _, rfl, rfl, rfl⟩, ?_⟩
     exact ⟨r36_0, _, _, rfl, hI, h⟩
    ·
     replace h := h.2 hc34_
     refine W_skip ?_
     refine then_n (k31 _ _ ?_)
     clear k31 K31
     refine W_seq_k fun K37 k37 => ?_
     refine W_region [51, 52, 50, 53, 54, 11, 12] rfl (Ops_step (R_loadN ag25 sz25 rfl ht29_.blk (Nat.le_of_ble_eq_true rfl)) rfl rfl ?_)
     refine Ops_call (C_func bd23 rfl) rfl rfl ?_
     refine (frame_Put_ok (x0 := r28_0) hI.st (hg.up hI.le) ⟨A28_0_1, c28_0_1, rfl, ⟨hc28_0_1, hs28_0_1⟩⟩ h).mono ?_
     rintro _ w38_ ⟨A38_0, c38_0, r38_0, r38_1, L38_, H38_, rfl, hI38_, ho38_0, h⟩
     refine Exists.elim (hI.call hI38_ (by simp)) fun L380_ h38_ => ?_
     have hz38_ := hI.size
     replace hI := h38_.1
     have u38_ := h38_.2.1
     have hl38_ := h38_.2.2
     clear h38_
     replace hs1 := hs1.up u38_.hh
     replace ho38_0 := OwnS.backS ho38_0 hz38_ (Le.refl _)
     clear hI38_ u38_ hl38_
     refine ⟨_, rfl, ?_⟩
     refine Exists.elim (ho38_0.freeze hI) fun L39_ h39_ => Exists.elim h39_ fun H39_ h39_ => ?_
     replace hI := h39_.1
     have u39_ := h39_.2.1
     have hs39_ := h39_.2.2.1 (Le.no _)
     have hc39_ := ho38_0.cap
     replace hs1 := hs1.up u39_.hh
     clear h39_ u39_ ho38_0
     refine Ops_step (R_move rfl) rfl rfl ?_
     refine Ops_step (R_extract (v := .slice A38_0 r38_0.length c38_0) rfl rfl) rfl rfl ?_
     refine Ops_step (R_extract (v := vi r38_1) rfl rfl) rfl rfl ?_
     refine Ops_step (R_assign rfl) rfl rfl (Ops_step (R_assign rfl) rfl rfl ?_)
     refine Ops_nil ?_
     refine then_n (k37 _ _ ?_)
     clear k37 K37
     refine W_keepB [1, 11, 12] fun B_ b_ => ?_
     simp only [e_, Nat.reduceAdd, Nat.reduceBEq] at b_
     subst b_
     refine W_seq_k fun K41 k41 => ?_
     refine W_region [55, 56, 57, 58, 59, 60, 61, 62, 63, 64, 4] rfl (Ops_step (R_move rfl) rfl rfl (Ops_step (R_eql rfl rfl) rfl rfl (Ops_step (R_move rfl) rfl rfl ?_)))
     refine Ops_split 57 rfl (fun hg42_ => ?_) (fun hg42_ => ?_)
     ·
      replace h := h.1 hg42_
      refine Ops_step (R_move rfl) rfl rfl (Ops_step (R_move rfl) rfl rfl ?_)
      refine Ops_call (C_func bd26 rfl) rfl rfl ?_
      refine (bytes_Equal_ok (x0 := r38_0) (x1 := x1) hI.st (hg.up hI.le) hc39_ (hs39_.up hI.sub) hc1 hs1 h).mono ?_
      rintro _ w43_ ⟨r43_0, L43_, H43_, rfl, hI43_, h⟩
      refine Exists.elim (hI.call hI43_ (by simp)) fun L430_ h43_ => ?_
      have hz43_ := hI.size
      replace hI := h43_.1
      have u43_ := h43_.2.1
      have hl43_ := h43_.2.2
      clear h43_
      clear hI43_ u43_ hl43_
      refine ⟨_, rfl, ?_⟩
      refine Ops_step (R_pick_true rfl rfl) rfl rfl (Ops_step (R_move rfl) rfl rfl ?_)
      refine Ops_splitB 62 rfl (fun hg44_ => ?_) (fun hg44_ => ?_)
      ·
       replace h := h.1 hg44_
       refine Ops_call (C_func bd13 rfl) rfl rfl ?_
       refine (sealskinlaw13_awake_ok  hI.st (hg.up hI.le)  h).mono ?_
       rintro _ w45_ ⟨r45_0, L45_, H45_, rfl, hI45_, h⟩
       refine Exists.elim (hI.call hI45_ (by simp)) fun L450_ h45_ => ?_
       have hz45_ := hI.size
       replace hI := h45_.1
       have u45_ := h45_.2.1
       have hl45_ := h45_.2.2
       clear h45_
       clear hI45_ u45_ hl45_
       refine ⟨_, rfl, ?_⟩
       refine Ops_step (R_pick_true rfl rfl) rfl rfl (Ops_step (R_assign rfl) rfl rfl ?_)
       refine Ops_nil ?_
       refine then_n (k41 _ _ ?_)
       clear k41 K41
       refine W_keepB [4] fun B_ b_ => ?_
       simp only [e_, Nat.reduceAdd, Nat.reduceBEq] at b_
       subst b_
       refine W_ret ?_
       refine ⟨_, ⟨_, _, rfl, rfl, rfl⟩, ?_⟩
       exact ⟨r45_0, _, _, rfl, hI, h⟩
      ·
       replace h := h.2 hg44_
       refine Ops_pass rfl rfl (Ops_step (R_pick_false rfl rfl) rfl rfl (Ops_step (R_assign rfl) rfl rfl ?_))
       refine Ops_nil ?_
       refine then_n (k41 _ _ ?_)
       clear k41 K41
       refine W_keepB [4] fun B_ b_ => ?_
       simp only [e_, Nat.reduceAdd, Nat.reduceBEq] at b_
       subst b_
       refine W_ret ?_
       refine ⟨_, ⟨_, _, rfl, rfl, rfl⟩, ?_⟩
       exact ⟨false, _, _, rfl, hI, h⟩
     ·
      replace h := h.2 hg42_
      refine Ops_pass rfl rfl (Ops_pass rfl rfl (Ops_pass rfl rfl (Ops_step (R_pick_false rfl rfl) rfl rfl (Ops_step (R_move rfl) rfl rfl ?_))))
      refine Ops_pass rfl rfl (Ops_step (R_pick_false rfl rfl) rfl rfl (Ops_step (R_assign rfl) rfl rfl ?_))
      refine Ops_nil ?_
      refine then_n (k41 _ _ ?_)
      clear k41 K41
      refine W_keepB [4] fun B_ b_ => ?_
      simp only [e_, Nat.reduceAdd, Nat.reduceBEq] at b_
      subst b_
      refine W_ret ?_
      refine ⟨_, ⟨_, _, rfl, rfl, rfl⟩, ?_⟩
      exact ⟨false, _, _, rfl, hI, h⟩

end Go.Proofs.YtbjmngacjdcddaaDoor

