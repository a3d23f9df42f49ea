/- What is shown of the program on the way to the law. -/
import Derived.Test.YtbjmngacjdcddaaDoorZg2
import Derived.Test.YtbjmngacjdcddaaDoorZg20
import Derived.Test.YtbjmngacjdcddaaDoorProg
set_option linter.unusedVariables false
set_option linter.unusedSimpArgs false
set_option maxHeartbeats 4000000
namespace Go.Proofs.YtbjmngacjdcddaaDoor
open Go Go.Sx Go.Lx
namespace TFmSmall
theorem hm : Tryd.prog.follows .mixedOrders = true := by kernel_rfl
theorem ag25 : aggB Tryd.prog 25 = some true := by kernel_rfl
theorem bd12 : bodied Tryd.prog 12 = true := by kernel_rfl
theorem bd13 : bodied Tryd.prog 13 = true := by kernel_rfl
theorem bd23 : bodied Tryd.prog 23 = true := by kernel_rfl
theorem bd24 : bodied Tryd.prog 24 = true := by kernel_rfl
theorem pl32 : partPl Tryd.prog 32 = some [(0, 1), (1, 1), (2, 1), (3, 1)] := by kernel_rfl
theorem sz25 : sz Tryd.prog 25 = some 9 := by kernel_rfl
theorem zr32 : zr Tryd.prog 32 = some ([.int .i64 0] ++ [.int .i64 0] ++ [.int .i64 0] ++ [.slice none 0 0]) := by kernel_rfl
end TFmSmall
open TFmSmall
theorem sealskinlaw13_FrameSmall_ok {G : Gh} {w : World} (hS : St G w) (hg : GL G) {l0 : List Value} {x0 : api_Msg} (hr0 : Rp.cs G x0 l0) {Q : Bool → Prop} (h : sealskinlaw13_FrameSmall x0 Q) : Calls Tryd.prog 5 #[.agg l0.toArray] w fun e w2 => ∃ (r0 : Bool) (L H : Gh), e = .returned (.bool r0) ∧ Inv [] G w L H w2 ∧ Q r0 := by
 unfold sealskinlaw13_FrameSmall at h
 have hI := Inv.start (M := []) hS
 refine calls_W 25 Tryd.func5 rfl Tryd.ntmps5 rfl [.tmp 2] rfl ?_
 obtain ⟨A0_1, c0_1, rfl, ⟨hc0_1, hs0_1⟩⟩ := hr0
 refine W_seq_k fun K1 k1 => ?_
 refine W_region [1, 2] rfl ?_
 have hI0_ := hI
 refine Ops_to (R_box rfl) rfl rfl ?_
 rintro _ w2_ ⟨b2_, rfl, hb2_, hB2_, hF2_⟩
 replace hI := hI.fr0 hF2_
 have ht2_ : Tok G _ b2_ 25 ([vi x0.Kind_, vi x0.Who_, vi x0.Seq_, vi x0.Rev_, vi x0.At_, vi x0.N_, vi x0.Target_, vi x0.Err_, .slice A0_1 x0.Edit_.length c0_1]) := ⟨hB2_.to rfl, Out.ge hI0_.st (Nat.le_of_eq hb2_.symm)⟩
 have hge_b2_ : w.heap.size ≤ b2_ := hb2_ ▸ hI0_.size
 clear hB2_ hb2_ hI0_ hF2_
 refine Ops_step (R_assign rfl) rfl rfl ?_
 refine Ops_nil ?_
 refine then_n (k1 _ _ ?_)
 clear k1 K1
 refine W_seq_k fun K3 k3 => ?_
 refine W_seq_k fun K4 k4 => ?_
 refine W_region [5, 6, 7] rfl (Ops_step (R_loadN ag25 sz25 rfl ht2_.blk (Nat.le_of_ble_eq_true rfl)) rfl rfl ?_)
 refine Ops_call (C_func bd12 rfl) rfl rfl ?_
 refine (sealskinlaw13_light_ok (x0 := x0) hI.st (hg.up hI.le) ⟨A0_1, c0_1, rfl, ⟨hc0_1, hs0_1⟩⟩ h).mono ?_
 rintro _ w5_ ⟨r5_0, L5_, H5_, rfl, hI5_, h⟩
 refine Exists.elim (hI.call hI5_ (by simp)) fun L50_ h5_ => ?_
 have hz5_ := hI.size
 replace hI := h5_.1
 have u5_ := h5_.2.1
 have hl5_ := h5_.2.2
 clear h5_
 replace hs0_1 := hs0_1.up u5_.hh
 replace ht2_ := ht2_.up u5_ (by simp)
 clear hI5_ u5_ hl5_
 refine ⟨_, rfl, ?_⟩
 refine Ops_step (R_not rfl) rfl rfl ?_
 refine Ops_nil ?_
 refine then_n (k4 _ _ ?_)
 clear k4 K4
 refine W_cond rfl (fun hc6_ => ?_) (fun hc6_ => ?_)
 ·
  replace h := h.1 hc6_
  refine W_seq_k fun K7 k7 => ?_
  refine W_region [8, 2] rfl ?_
  refine Ops_call (C_func bd13 rfl) rfl rfl ?_
  refine (sealskinlaw13_awake_ok  hI.st (hg.up hI.le)  h).mono ?_
  rintro _ w8_ ⟨r8_0, L8_, H8_, rfl, hI8_, h⟩
  refine Exists.elim (hI.call hI8_ (by simp)) fun L80_ h8_ => ?_
  have hz8_ := hI.size
  replace hI := h8_.1
  have u8_ := h8_.2.1
  have hl8_ := h8_.2.2
  clear h8_
  clear hI8_ u8_ hl8_
  refine ⟨_, rfl, ?_⟩
  refine Ops_step (R_assign rfl) rfl rfl ?_
  refine Ops_nil ?_
  refine then_n (k7 _ _ ?_)
  clear k7 K7
  refine W_keepB [2] fun B_ b_ => ?_
  simp only [e_, Nat.reduceAdd, Nat.reduceBEq] at b_
  subst b_
  refine W_ret ?_
  refine then_ret ?_
  clear k3 K3
  refine ⟨_, ⟨_, _, rfl, rfl, rfl⟩, ?_⟩
  exact ⟨r8_0, _, _, rfl, hI, h⟩
 ·
  replace h := h.2 hc6_
  refine W_skip ?_
  refine then_n (k3 _ _ ?_)
  clear k3 K3
  refine W_seq_k fun K10 k10 => ?_
  refine W_region [10, 11, 9, 12, 13, 3, 4] rfl (Ops_step (R_loadN ag25 sz25 rfl ht2_.blk (Nat.le_of_ble_eq_true rfl)) rfl rfl ?_)
  refine Ops_call (C_func bd23 rfl) rfl rfl ?_
  refine (frame_Put_ok (x0 := x0) hI.st (hg.up hI.le) ⟨A0_1, c0_1, rfl, ⟨hc0_1, hs0_1⟩⟩ h).mono ?_
  rintro _ w11_ ⟨A11_0, c11_0, r11_0, r11_1, L11_, H11_, rfl, hI11_, ho11_0, h⟩
  refine Exists.elim (hI.call hI11_ (by simp)) fun L110_ h11_ => ?_
  have hz11_ := hI.size
  replace hI := h11_.1
  have u11_ := h11_.2.1
  have hl11_ := h11_.2.2
  clear h11_
  replace ho11_0 := OwnS.backS ho11_0 hz11_ (Le.refl _)
  clear hI11_ u11_ hl11_
  refine ⟨_, rfl, ?_⟩
  refine Exists.elim (ho11_0.freeze hI) fun L12_ h12_ => Exists.elim h12_ fun H12_ h12_ => ?_
  replace hI := h12_.1
  have u12_ := h12_.2.1
  have hs12_ := h12_.2.2.1 (Le.no _)
  have hc12_ := ho11_0.cap
  clear h12_ u12_ ho11_0
  refine Ops_step (R_move rfl) rfl rfl ?_
  refine Ops_step (R_extract (v := .slice A11_0 r11_0.length c11_0) rfl rfl) rfl rfl ?_
  refine Ops_step (R_extract (v := vi r11_1) rfl rfl) rfl rfl ?_
  refine Ops_step (R_assign rfl) rfl rfl (Ops_step (R_assign rfl) rfl rfl ?_)
  refine Ops_nil ?_
  refine then_n (k10 _ _ ?_)
  clear k10 K10
  refine W_keepB [3, 4] fun B_ b_ => ?_
  simp only [e_, Nat.reduceAdd, Nat.reduceBEq] at b_
  subst b_
  refine W_seq_k fun K14 k14 => ?_
  refine W_region [14, 15, 16, 17, 18, 19, 20, 21, 22, 23, 24, 2] rfl (Ops_step (R_move rfl) rfl rfl (Ops_step (R_neq rfl rfl) rfl rfl (Ops_step (R_move rfl) rfl rfl ?_)))
  refine Ops_split 16 rfl (fun hg15_ => ?_) (fun hg15_ => ?_)
  ·
   replace h := h.1 hg15_
   refine Ops_pass rfl rfl (Ops_pass rfl rfl (Ops_pass rfl rfl (Ops_pass rfl rfl (Ops_step (R_pick_true rfl rfl) rfl rfl ?_))))
   refine Ops_step (R_move rfl) rfl rfl ?_
   refine Ops_call (C_func bd13 rfl) rfl rfl ?_
   refine (sealskinlaw13_awake_ok  hI.st (hg.up hI.le)  h).mono ?_
   rintro _ w16_ ⟨r16_0, L16_, H16_, rfl, hI16_, h⟩
   refine Exists.elim (hI.call hI16_ (by simp)) fun L160_ h16_ => ?_
   have hz16_ := hI.size
   replace hI := h16_.1
   have u16_ := h16_.2.1
   have hl16_ := h16_.2.2
   clear h16_
   clear hI16_ u16_ hl16_
   refine ⟨_, rfl, ?_⟩
   refine Ops_step (R_pick_true rfl rfl) rfl rfl (Ops_step (R_assign rfl) rfl rfl ?_)
   refine Ops_nil ?_
   refine then_n (k14 _ _ ?_)
   clear k14 K14
   refine W_keepB [2] fun B_ b_ => ?_
   simp only [e_, Nat.reduceAdd, Nat.reduceBEq] at b_
   subst b_
   refine W_ret ?_
   refine ⟨_, ⟨_, _, rfl, rfl, rfl⟩, ?_⟩
   exact ⟨r16_0, _, _, rfl, hI, h⟩
  ·
   replace h := h.2 hg15_
   refine Ops_step (R_move rfl) rfl rfl ?_
   refine Ops_step (R_build (pl := [(0, 1), (1, 1), (3, 1)]) (cs := [vi 1, vi 1, vi 0, .slice A11_0 r11_0.length c11_0]) zr32 pl32 rfl rfl rfl) rfl rfl ?_
   refine Ops_call (C_func bd24 rfl) rfl rfl ?_
   refine (frame_Fits_ok (x0 := (api_Frame.mk 1 1 0 r11_0)) hI.st (hg.up hI.le) ⟨A11_0, c11_0, rfl, ⟨hc12_, (hs12_.up hI.sub)⟩⟩ h).mono ?_
   rintro _ w18_ ⟨r18_0, L18_, H18_, rfl, hI18_, h⟩
   refine Exists.elim (hI.call hI18_ (by simp)) fun L180_ h18_ => ?_
   have hz18_ := hI.size
   replace hI := h18_.1
   have u18_ := h18_.2.1
   have hl18_ := h18_.2.2
   clear h18_
   clear hI18_ u18_ hl18_
   refine ⟨_, rfl, ?_⟩
   refine Ops_step (R_eql rfl rfl) rfl rfl (Ops_step (R_pick_false rfl rfl) rfl rfl (Ops_step (R_move rfl) rfl rfl ?_))
   refine Ops_split 22 rfl (fun hg19_ => ?_) (fun hg19_ => ?_)
   ·
    replace h := h.1 hg19_
    refine Ops_call (C_func bd13 rfl) rfl rfl ?_
    refine (sealskinlaw13_awake_ok  hI.st (hg.up hI.le)  h).mono ?_
    rintro _ w20_ ⟨r20_0, L20_, H20_, rfl, hI20_, h⟩
    refine Exists.elim (hI.call hI20_ (by simp)) fun L200_ h20_ => ?_
    have hz20_ := hI.size
    replace hI := h20_.1
    have u20_ := h20_.2.1
    have hl20_ := h20_.2.2
    clear h20_
    clear hI20_ u20_ hl20_
    refine ⟨_, rfl, ?_⟩
    refine Ops_step (R_pick_true rfl rfl) rfl rfl (Ops_step (R_assign rfl) rfl rfl ?_)
    refine Ops_nil ?_
    refine then_n (k14 _ _ ?_)
    clear k14 K14
    refine W_keepB [2] fun B_ b_ => ?_
    simp only [e_, Nat.reduceAdd, Nat.reduceBEq] at b_
    subst b_
    refine W_ret ?_
    refine ⟨_, ⟨_, _, rfl, rfl, rfl⟩, ?_⟩
    exact ⟨r20_0, _, _, rfl, hI, h⟩
   ·
    replace h := h.2 hg19_
    refine Ops_pass rfl rfl (Ops_step (R_pick_false rfl rfl) rfl rfl (Ops_step (R_assign rfl) rfl rfl ?_))
    refine Ops_nil ?_
    refine then_n (k14 _ _ ?_)
    clear k14 K14
    refine W_keepB [2] fun B_ b_ => ?_
    simp only [e_, Nat.reduceAdd, Nat.reduceBEq] at b_
    subst b_
    refine W_ret ?_
    refine ⟨_, ⟨_, _, rfl, rfl, rfl⟩, ?_⟩
    exact ⟨false, _, _, rfl, hI, h⟩

end Go.Proofs.YtbjmngacjdcddaaDoor

