/- What is shown of the program on the way to the law. -/
import Derived.Test.YtbjmngacjdcddaaDoorZg2
import Derived.Test.YtbjmngacjdcddaaDoorZg20
import Derived.Test.YtbjmngacjdcddaaDoorProg
set_option linter.unusedVariables false
set_option linter.unusedSimpArgs false
set_option maxHeartbeats 4000000
namespace Go.Proofs.YtbjmngacjdcddaaDoor
open Go Go.Sx Go.Lx
namespace TFmChecks
theorem hm : Tryd.prog.follows .mixedOrders = true := by kernel_rfl
theorem ag23 : aggB Tryd.prog 23 = some false := by kernel_rfl
theorem ag25 : aggB Tryd.prog 25 = some true := by kernel_rfl
theorem bd12 : bodied Tryd.prog 12 = true := by kernel_rfl
theorem bd13 : bodied Tryd.prog 13 = true := by kernel_rfl
theorem bd14 : bodied Tryd.prog 14 = true := by kernel_rfl
theorem bd15 : bodied Tryd.prog 15 = true := by kernel_rfl
theorem bd16 : bodied Tryd.prog 16 = true := by kernel_rfl
theorem bd17 : bodied Tryd.prog 17 = true := by kernel_rfl
theorem fo25_8 : offB Tryd.prog 25 8 = some 8 := by kernel_rfl
theorem sz25 : sz Tryd.prog 25 = some 9 := by kernel_rfl
end TFmChecks
open TFmChecks
theorem sealskinlaw13_FrameChecks_ok {G : Gh} {w : World} (hS : St G w) (hg : GL G) {l0 : List Value} {x0 : api_Msg} (hr0 : Rp.cs G x0 l0) {Q : Bool → Prop} (h : sealskinlaw13_FrameChecks x0 Q) : Calls Tryd.prog 3 #[.agg l0.toArray] w fun e w2 => ∃ (r0 : Bool) (L H : Gh), e = .returned (.bool r0) ∧ Inv [] G w L H w2 ∧ Q r0 := by
 unfold sealskinlaw13_FrameChecks at h
 have hI := Inv.start (M := []) hS
 refine calls_W 24 Tryd.func3 rfl Tryd.ntmps3 rfl [.tmp 2] rfl ?_
 obtain ⟨A0_1, c0_1, rfl, ⟨hc0_1, hs0_1⟩⟩ := hr0
 refine W_seq_k fun K1 k1 => ?_
 refine W_region [1, 2] rfl ?_
 have hI0_ := hI
 refine Ops_to (R_box rfl) rfl rfl ?_
 rintro _ w2_ ⟨b2_, rfl, hb2_, hB2_, hF2_⟩
 replace hI := hI.fr0 hF2_
 have ht2_ : Tok G _ b2_ 25 ([vi x0.Kind_, vi x0.Who_, vi x0.Seq_, vi x0.Rev_, vi x0.At_, vi x0.N_, vi x0.Target_, vi x0.Err_, .slice A0_1 x0.Edit_.length c0_1]) := ⟨hB2_.to rfl, Out.ge hI0_.st (Nat.le_of_eq hb2_.symm)⟩
 have hge_b2_ : w.heap.size ≤ b2_ := hb2_ ▸ hI0_.size
 clear hB2_ hb2_ hI0_ hF2_
 refine Ops_step (R_assign rfl) rfl rfl ?_
 refine Ops_nil ?_
 refine then_n (k1 _ _ ?_)
 clear k1 K1
 refine W_seq_k fun K3 k3 => ?_
 refine W_seq_k fun K4 k4 => ?_
 refine W_region [3, 4, 5] rfl (Ops_step (R_loadN ag25 sz25 rfl ht2_.blk (Nat.le_of_ble_eq_true rfl)) rfl rfl ?_)
 refine Ops_call (C_func bd12 rfl) rfl rfl ?_
 refine (sealskinlaw13_light_ok (x0 := x0) hI.st (hg.up hI.le) ⟨A0_1, c0_1, rfl, ⟨hc0_1, hs0_1⟩⟩ h).mono ?_
 rintro _ w5_ ⟨r5_0, L5_, H5_, rfl, hI5_, h⟩
 refine Exists.elim (hI.call hI5_ (by simp)) fun L50_ h5_ => ?_
 have hz5_ := hI.size
 replace hI := h5_.1
 have u5_ := h5_.2.1
 have hl5_ := h5_.2.2
 clear h5_
 replace hs0_1 := hs0_1.up u5_.hh
 replace ht2_ := ht2_.up u5_ (by simp)
 clear hI5_ u5_ hl5_
 refine ⟨_, rfl, ?_⟩
 refine Ops_step (R_not rfl) rfl rfl ?_
 refine Ops_nil ?_
 refine then_n (k4 _ _ ?_)
 clear k4 K4
 refine W_cond rfl (fun hc6_ => ?_) (fun hc6_ => ?_)
 ·
  replace h := h.1 hc6_
  refine W_seq_k fun K7 k7 => ?_
  refine W_region [6, 2] rfl ?_
  refine Ops_call (C_func bd13 rfl) rfl rfl ?_
  refine (sealskinlaw13_awake_ok  hI.st (hg.up hI.le)  h).mono ?_
  rintro _ w8_ ⟨r8_0, L8_, H8_, rfl, hI8_, h⟩
  refine Exists.elim (hI.call hI8_ (by simp)) fun L80_ h8_ => ?_
  have hz8_ := hI.size
  replace hI := h8_.1
  have u8_ := h8_.2.1
  have hl8_ := h8_.2.2
  clear h8_
  clear hI8_ u8_ hl8_
  refine ⟨_, rfl, ?_⟩
  refine Ops_step (R_assign rfl) rfl rfl ?_
  refine Ops_nil ?_
  refine then_n (k7 _ _ ?_)
  clear k7 K7
  refine W_keepB [2] fun B_ b_ => ?_
  simp only [e_, Nat.reduceAdd, Nat.reduceBEq] at b_
  subst b_
  refine W_ret ?_
  refine then_ret ?_
  clear k3 K3
  refine ⟨_, ⟨_, _, rfl, rfl, rfl⟩, ?_⟩
  exact ⟨r8_0, _, _, rfl, hI, h⟩
 ·
  replace h := h.2 hc6_
  refine W_skip ?_
  refine then_n (k3 _ _ ?_)
  clear k3 K3
  refine W_seq_k fun K10 k10 => ?_
  refine W_drawF [7, 8, 9, 10, 11, 12, 13, 14, 15, 16, 17, 18, 19, 20, 21, 22, 23, 2] [(0, true), (2, true), (1, false), (3, false), (4, true), (5, true), (6, true), (7, true), (9, true), (10, true), (8, false), (11, false), (12, true), (13, true), (14, true), (15, false), (16, true), (17, true)] TFmChecks.hm rfl (by kernel_rfl) fun ops11_ w11_ hops11_ hF11_ => ?_
  replace hI := hI.fr0 hF11_
  replace ht2_ := ht2_.fr0 hF11_
  clear hF11_
  refine HS_loadN ag25 sz25 rfl ht2_.blk (Nat.le_of_ble_eq_true rfl) rfl rfl ?_
  refine HS_loadN ag25 sz25 rfl ht2_.blk (Nat.le_of_ble_eq_true rfl) rfl rfl ?_
  refine HS_call [2] _ rfl (by rw [hops11_]; kernel_rfl) (C_func bd14 rfl) rfl rfl ?_
  refine (frame_Check_ok (x0 := x0) hI.st (hg.up hI.le) ⟨A0_1, c0_1, rfl, ⟨hc0_1, hs0_1⟩⟩ h).mono ?_
  rintro _ w12_ ⟨r12_0, L12_, H12_, rfl, hI12_, h⟩
  refine Exists.elim (hI.call hI12_ (by simp)) fun L120_ h12_ => ?_
  have hz12_ := hI.size
  replace hI := h12_.1
  have u12_ := h12_.2.1
  have hl12_ := h12_.2.2
  clear h12_
  replace hs0_1 := hs0_1.up u12_.hh
  replace ht2_ := ht2_.up u12_ (by simp)
  clear hI12_ u12_ hl12_
  refine ⟨_, rfl, ⟨ht2_.blk, trivial⟩, ?_⟩
  refine HS_call [] _ rfl (by rw [hops11_]; kernel_rfl) (C_func bd15 rfl) rfl rfl ?_
  refine (sealskinref13_Check_ok (x0 := x0) hI.st (hg.up hI.le) ⟨A0_1, c0_1, rfl, ⟨hc0_1, hs0_1⟩⟩ h).mono ?_
  rintro _ w13_ ⟨r13_0, L13_, H13_, rfl, hI13_, h⟩
  refine Exists.elim (hI.call hI13_ (by simp)) fun L130_ h13_ => ?_
  have hz13_ := hI.size
  replace hI := h13_.1
  have u13_ := h13_.2.1
  have hl13_ := h13_.2.2
  clear h13_
  replace hs0_1 := hs0_1.up u13_.hh
  replace ht2_ := ht2_.up u13_ (by simp)
  clear hI13_ u13_ hl13_
  refine ⟨_, rfl, trivial, ?_⟩
  refine HSp (R_eql rfl rfl) rfl rfl (HSp (R_move rfl) rfl rfl ?_)
  refine HS_split 12 rfl (fun hg14_ => ?_) (fun hg14_ => ?_)
  ·
   replace h := h.1 hg14_
   refine HSp (R_fieldAddr fo25_8 rfl) rfl rfl ?_
   refine HS_loadB (v := .slice A0_1 x0.Edit_.length c0_1) ag23 rfl ht2_.blk rfl rfl rfl ?_
   refine HSp (R_fieldAddr fo25_8 rfl) rfl rfl ?_
   refine HS_loadB (v := .slice A0_1 x0.Edit_.length c0_1) ag23 rfl ht2_.blk rfl rfl rfl ?_
   refine HS_call [10] _ rfl (by rw [hops11_]; kernel_rfl) (C_func bd16 rfl) rfl rfl ?_
   refine (frame_Light_ok (x0 := x0.Edit_) hI.st (hg.up hI.le) hc0_1 hs0_1 h).mono ?_
   rintro _ w15_ ⟨r15_0, L15_, H15_, rfl, hI15_, h⟩
   refine Exists.elim (hI.call hI15_ (by simp)) fun L150_ h15_ => ?_
   have hz15_ := hI.size
   replace hI := h15_.1
   have u15_ := h15_.2.1
   have hl15_ := h15_.2.2
   clear h15_
   replace hs0_1 := hs0_1.up u15_.hh
   replace ht2_ := ht2_.up u15_ (by simp)
   clear hI15_ u15_ hl15_
   refine ⟨_, rfl, ⟨(ht2_.blk.at_ rfl), trivial⟩, ?_⟩
   refine HS_call [] _ rfl (by rw [hops11_]; kernel_rfl) (C_func bd17 rfl) rfl rfl ?_
   refine (sealskinref13_Light_ok (x0 := x0.Edit_) hI.st (hg.up hI.le) hc0_1 hs0_1 h).mono ?_
   rintro _ w16_ ⟨r16_0, L16_, H16_, rfl, hI16_, h⟩
   refine Exists.elim (hI.call hI16_ (by simp)) fun L160_ h16_ => ?_
   have hz16_ := hI.size
   replace hI := h16_.1
   have u16_ := h16_.2.1
   have hl16_ := h16_.2.2
   clear h16_
   replace ht2_ := ht2_.up u16_ (by simp)
   clear hI16_ u16_ hl16_
   refine ⟨_, rfl, trivial, ?_⟩
   refine HSp (R_boolEq Tryd.underlying4 rfl rfl) rfl rfl (HSp (R_pick_true rfl rfl) rfl rfl (HSp (R_move rfl) rfl rfl ?_))
   refine HS_splitB 21 rfl (fun hg17_ => ?_) (fun hg17_ => ?_)
   ·
    replace h := h.1 hg17_
    refine HS_call [] _ rfl (by rw [hops11_]; kernel_rfl) (C_func bd13 rfl) rfl rfl ?_
    refine (sealskinlaw13_awake_ok  hI.st (hg.up hI.le)  h).mono ?_
    rintro _ w18_ ⟨r18_0, L18_, H18_, rfl, hI18_, h⟩
    refine Exists.elim (hI.call hI18_ (by simp)) fun L180_ h18_ => ?_
    have hz18_ := hI.size
    replace hI := h18_.1
    have u18_ := h18_.2.1
    have hl18_ := h18_.2.2
    clear h18_
    clear hI18_ u18_ hl18_
    refine ⟨_, rfl, trivial, ?_⟩
    refine HSp (R_pick_true rfl rfl) rfl rfl (HSp (R_assign rfl) rfl rfl ?_)
    refine HS_nil ?_
    clear hops11_
    refine then_n (k10 _ _ ?_)
    clear k10 K10
    refine W_keepB [2] fun B_ b_ => ?_
    simp only [e_, Nat.reduceAdd, Nat.reduceBEq] at b_
    subst b_
    refine W_ret ?_
    refine ⟨_, ⟨_, _, rfl, rfl, rfl⟩, ?_⟩
    exact ⟨r18_0, _, _, rfl, hI, h⟩
   ·
    replace h := h.2 hg17_
    refine HS_passL rfl rfl ?_
    refine HSp (R_pick_false rfl rfl) rfl rfl (HSp (R_assign rfl) rfl rfl ?_)
    refine HS_nil ?_
    clear hops11_
    refine then_n (k10 _ _ ?_)
    clear k10 K10
    refine W_keepB [2] fun B_ b_ => ?_
    simp only [e_, Nat.reduceAdd, Nat.reduceBEq] at b_
    subst b_
    refine W_ret ?_
    refine ⟨_, ⟨_, _, rfl, rfl, rfl⟩, ?_⟩
    exact ⟨false, _, _, rfl, hI, h⟩
  ·
   replace h := h.2 hg14_
   refine HS_pass rfl rfl ?_
   refine HS_pass rfl rfl ?_
   refine HS_pass rfl rfl ?_
   refine HS_pass rfl rfl ?_
   refine HS_passL rfl rfl ?_
   refine HS_passL rfl rfl ?_
   refine HS_pass rfl rfl ?_
   refine HSp (R_pick_false rfl rfl) rfl rfl (HSp (R_move rfl) rfl rfl ?_)
   refine HS_passL rfl rfl ?_
   refine HSp (R_pick_false rfl rfl) rfl rfl (HSp (R_assign rfl) rfl rfl ?_)
   refine HS_nil ?_
   clear hops11_
   refine then_n (k10 _ _ ?_)
   clear k10 K10
   refine W_keepB [2] fun B_ b_ => ?_
   simp only [e_, Nat.reduceAdd, Nat.reduceBEq] at b_
   subst b_
   refine W_ret ?_
   refine ⟨_, ⟨_, _, rfl, rfl, rfl⟩, ?_⟩
   exact ⟨false, _, _, rfl, hI, h⟩

end Go.Proofs.YtbjmngacjdcddaaDoor

