/- What is shown of the program on the way to the law. -/
import Derived.Test.YtbjmngacjdcddaaDoorZg2
import Derived.Test.YtbjmngacjdcddaaDoorZg20
import Derived.Test.YtbjmngacjdcddaaDoorProg
set_option linter.unusedVariables false
set_option linter.unusedSimpArgs false
set_option maxHeartbeats 4000000
namespace Go.Proofs.YtbjmngacjdcddaaDoor
open Go Go.Sx Go.Lx
namespace TFmPuts
theorem hm : Tryd.prog.follows .mixedOrders = true := by kernel_rfl
theorem ag25 : aggB Tryd.prog 25 = some true := by kernel_rfl
theorem bd12 : bodied Tryd.prog 12 = true := by kernel_rfl
theorem bd13 : bodied Tryd.prog 13 = true := by kernel_rfl
theorem bd23 : bodied Tryd.prog 23 = true := by kernel_rfl
theorem bd25 : bodied Tryd.prog 25 = true := by kernel_rfl
theorem bd26 : bodied Tryd.prog 26 = true := by kernel_rfl
theorem sz25 : sz Tryd.prog 25 = some 9 := by kernel_rfl
end TFmPuts
open TFmPuts
theorem sealskinlaw13_FramePuts_ok {G : Gh} {w : World} (hS : St G w) (hg : GL G) {l0 : List Value} {x0 : api_Msg} (hr0 : Rp.cs G x0 l0) {Q : Bool → Prop} (h : sealskinlaw13_FramePuts x0 Q) : Calls Tryd.prog 6 #[.agg l0.toArray] w fun e w2 => ∃ (r0 : Bool) (L H : Gh), e = .returned (.bool r0) ∧ Inv [] G w L H w2 ∧ Q r0 := by
 unfold sealskinlaw13_FramePuts at h
 have hI := Inv.start (M := []) hS
 refine calls_W 37 Tryd.func6 rfl Tryd.ntmps6 rfl [.tmp 2] rfl ?_
 obtain ⟨A0_1, c0_1, rfl, ⟨hc0_1, hs0_1⟩⟩ := hr0
 refine W_seq_k fun K1 k1 => ?_
 refine W_region [1, 2] rfl ?_
 have hI0_ := hI
 refine Ops_to (R_box rfl) rfl rfl ?_
 rintro _ w2_ ⟨b2_, rfl, hb2_, hB2_, hF2_⟩
 replace hI := hI.fr0 hF2_
 have ht2_ : Tok G _ b2_ 25 ([vi x0.Kind_, vi x0.Who_, vi x0.Seq_, vi x0.Rev_, vi x0.At_, vi x0.N_, vi x0.Target_, vi x0.Err_, .slice A0_1 x0.Edit_.length c0_1]) := ⟨hB2_.to rfl, Out.ge hI0_.st (Nat.le_of_eq hb2_.symm)⟩
 have hge_b2_ : w.heap.size ≤ b2_ := hb2_ ▸ hI0_.size
 clear hB2_ hb2_ hI0_ hF2_
 refine Ops_step (R_assign rfl) rfl rfl ?_
 refine Ops_nil ?_
 refine then_n (k1 _ _ ?_)
 clear k1 K1
 refine W_seq_k fun K3 k3 => ?_
 refine W_seq_k fun K4 k4 => ?_
 refine W_region [7, 8, 9] rfl (Ops_step (R_loadN ag25 sz25 rfl ht2_.blk (Nat.le_of_ble_eq_true rfl)) rfl rfl ?_)
 refine Ops_call (C_func bd12 rfl) rfl rfl ?_
 refine (sealskinlaw13_light_ok (x0 := x0) hI.st (hg.up hI.le) ⟨A0_1, c0_1, rfl, ⟨hc0_1, hs0_1⟩⟩ h).mono ?_
 rintro _ w5_ ⟨r5_0, L5_, H5_, rfl, hI5_, h⟩
 refine Exists.elim (hI.call hI5_ (by simp)) fun L50_ h5_ => ?_
 have hz5_ := hI.size
 replace hI := h5_.1
 have u5_ := h5_.2.1
 have hl5_ := h5_.2.2
 clear h5_
 replace hs0_1 := hs0_1.up u5_.hh
 replace ht2_ := ht2_.up u5_ (by simp)
 clear hI5_ u5_ hl5_
 refine ⟨_, rfl, ?_⟩
 refine Ops_step (R_not rfl) rfl rfl ?_
 refine Ops_nil ?_
 refine then_n (k4 _ _ ?_)
 clear k4 K4
 refine W_cond rfl (fun hc6_ => ?_) (fun hc6_ => ?_)
 ·
  replace h := h.1 hc6_
  refine W_seq_k fun K7 k7 => ?_
  refine W_region [10, 2] rfl ?_
  refine Ops_call (C_func bd13 rfl) rfl rfl ?_
  refine (sealskinlaw13_awake_ok  hI.st (hg.up hI.le)  h).mono ?_
  rintro _ w8_ ⟨r8_0, L8_, H8_, rfl, hI8_, h⟩
  refine Exists.elim (hI.call hI8_ (by simp)) fun L80_ h8_ => ?_
  have hz8_ := hI.size
  replace hI := h8_.1
  have u8_ := h8_.2.1
  have hl8_ := h8_.2.2
  clear h8_
  clear hI8_ u8_ hl8_
  refine ⟨_, rfl, ?_⟩
  refine Ops_step (R_assign rfl) rfl rfl ?_
  refine Ops_nil ?_
  refine then_n (k7 _ _ ?_)
  clear k7 K7
  refine W_keepB [2] fun B_ b_ => ?_
  simp only [e_, Nat.reduceAdd, Nat.reduceBEq] at b_
  subst b_
  refine W_ret ?_
  refine then_ret ?_
  clear k3 K3
  refine ⟨_, ⟨_, _, rfl, rfl, rfl⟩, ?_⟩
  exact ⟨r8_0, _, _, rfl, hI, h⟩
 ·
  replace h := h.2 hc6_
  refine W_skip ?_
  refine then_n (k3 _ _ ?_)
  clear k3 K3
  refine W_seq_k fun K10 k10 => ?_
  refine W_region [12, 13, 11, 14, 15, 3, 4] rfl (Ops_step (R_loadN ag25 sz25 rfl ht2_.blk (Nat.le_of_ble_eq_true rfl)) rfl rfl ?_)
  refine Ops_call (C_func bd23 rfl) rfl rfl ?_
  refine (frame_Put_ok (x0 := x0) hI.st (hg.up hI.le) ⟨A0_1, c0_1, rfl, ⟨hc0_1, hs0_1⟩⟩ h).mono ?_
  rintro _ w11_ ⟨A11_0, c11_0, r11_0, r11_1, L11_, H11_, rfl, hI11_, ho11_0, h⟩
  refine Exists.elim (hI.call hI11_ (by simp)) fun L110_ h11_ => ?_
  have hz11_ := hI.size
  replace hI := h11_.1
  have u11_ := h11_.2.1
  have hl11_ := h11_.2.2
  clear h11_
  replace hs0_1 := hs0_1.up u11_.hh
  replace ht2_ := ht2_.up u11_ (by simp)
  replace ho11_0 := OwnS.backS ho11_0 hz11_ (Le.refl _)
  clear hI11_ u11_ hl11_
  refine ⟨_, rfl, ?_⟩
  refine Exists.elim (ho11_0.freeze hI) fun L12_ h12_ => Exists.elim h12_ fun H12_ h12_ => ?_
  replace hI := h12_.1
  have u12_ := h12_.2.1
  have hs12_ := h12_.2.2.1 (Le.no _)
  have hc12_ := ho11_0.cap
  replace hs0_1 := hs0_1.up u12_.hh
  replace ht2_ := ht2_.up u12_ (ht2_.sep ho11_0 (by decide))
  clear h12_ u12_ ho11_0
  refine Ops_step (R_move rfl) rfl rfl ?_
  refine Ops_step (R_extract (v := .slice A11_0 r11_0.length c11_0) rfl rfl) rfl rfl ?_
  refine Ops_step (R_extract (v := vi r11_1) rfl rfl) rfl rfl ?_
  refine Ops_step (R_assign rfl) rfl rfl (Ops_step (R_assign rfl) rfl rfl ?_)
  refine Ops_nil ?_
  refine then_n (k10 _ _ ?_)
  clear k10 K10
  refine W_keepB [1, 3, 4] fun B_ b_ => ?_
  simp only [e_, Nat.reduceAdd, Nat.reduceBEq] at b_
  subst b_
  refine W_seq_k fun K14 k14 => ?_
  refine W_region [17, 18, 16, 19, 20, 5, 6] rfl (Ops_step (R_loadN ag25 sz25 rfl ht2_.blk (Nat.le_of_ble_eq_true rfl)) rfl rfl ?_)
  refine Ops_call (C_func bd25 rfl) rfl rfl ?_
  refine (sealskinref13_Put_ok (x0 := x0) hI.st (hg.up hI.le) ⟨A0_1, c0_1, rfl, ⟨hc0_1, hs0_1⟩⟩ h).mono ?_
  rintro _ w15_ ⟨A15_0, c15_0, r15_0, r15_1, L15_, H15_, rfl, hI15_, ho15_0, h⟩
  refine Exists.elim (hI.call hI15_ (by simp)) fun L150_ h15_ => ?_
  have hz15_ := hI.size
  replace hI := h15_.1
  have u15_ := h15_.2.1
  have hl15_ := h15_.2.2
  clear h15_
  replace hs12_ := hs12_.up u15_.ll
  replace ho15_0 := OwnS.backS ho15_0 hz15_ (Le.refl _)
  clear hI15_ u15_ hl15_
  refine ⟨_, rfl, ?_⟩
  refine Exists.elim (ho15_0.freeze hI) fun L16_ h16_ => Exists.elim h16_ fun H16_ h16_ => ?_
  replace hI := h16_.1
  have u16_ := h16_.2.1
  have hs16_ := h16_.2.2.1 (Le.no _)
  have hc16_ := ho15_0.cap
  replace hs12_ := hs12_.up u16_.ll
  clear h16_ u16_ ho15_0
  refine Ops_step (R_move rfl) rfl rfl ?_
  refine Ops_step (R_extract (v := .slice A15_0 r15_0.length c15_0) rfl rfl) rfl rfl ?_
  refine Ops_step (R_extract (v := vi r15_1) rfl rfl) rfl rfl ?_
  refine Ops_step (R_assign rfl) rfl rfl (Ops_step (R_assign rfl) rfl rfl ?_)
  refine Ops_nil ?_
  refine then_n (k14 _ _ ?_)
  clear k14 K14
  refine W_keepB [3, 4, 5, 6] fun B_ b_ => ?_
  simp only [e_, Nat.reduceAdd, Nat.reduceBEq] at b_
  subst b_
  refine W_seq_k fun K18 k18 => ?_
  refine W_region [21, 22, 23, 24, 25, 26, 27, 28, 29, 30, 31, 32, 33, 34, 35, 36, 2] rfl (Ops_step (R_move rfl) rfl rfl (Ops_step (R_move rfl) rfl rfl ?_))
  refine Ops_call (C_func bd26 rfl) rfl rfl ?_
  refine (bytes_Equal_ok (x0 := r11_0) (x1 := r15_0) hI.st (hg.up hI.le) hc12_ (hs12_.up hI.sub) hc16_ (hs16_.up hI.sub) h).mono ?_
  rintro _ w19_ ⟨r19_0, L19_, H19_, rfl, hI19_, h⟩
  refine Exists.elim (hI.call hI19_ (by simp)) fun L190_ h19_ => ?_
  have hz19_ := hI.size
  replace hI := h19_.1
  have u19_ := h19_.2.1
  have hl19_ := h19_.2.2
  clear h19_
  replace hs12_ := hs12_.up u19_.ll
  clear hI19_ u19_ hl19_
  refine ⟨_, rfl, ?_⟩
  refine Ops_step (R_move rfl) rfl rfl ?_
  refine Ops_splitB 24 rfl (fun hg20_ => ?_) (fun hg20_ => ?_)
  ·
   replace h := h.1 hg20_
   refine Ops_step (R_move rfl) rfl rfl (Ops_step (R_move rfl) rfl rfl (Ops_step (R_eql rfl rfl) rfl rfl (Ops_step (R_pick_true rfl rfl) rfl rfl (Ops_step (R_move rfl) rfl rfl ?_))))
   refine Ops_split 29 rfl (fun hg21_ => ?_) (fun hg21_ => ?_)
   ·
    replace h := h.1 hg21_
    refine Ops_step (R_move rfl) rfl rfl (Ops_step (R_len Tryd.underlying30 rfl rfl) rfl rfl (Ops_step (R_leq rfl rfl) rfl rfl (Ops_step (R_pick_true rfl rfl) rfl rfl (Ops_step (R_move rfl) rfl rfl ?_))))
    refine Ops_split 34 rfl (fun hg22_ => ?_) (fun hg22_ => ?_)
    ·
     replace h := h.1 hg22_
     refine Ops_call (C_func bd13 rfl) rfl rfl ?_
     refine (sealskinlaw13_awake_ok  hI.st (hg.up hI.le)  h).mono ?_
     rintro _ w23_ ⟨r23_0, L23_, H23_, rfl, hI23_, h⟩
     refine Exists.elim (hI.call hI23_ (by simp)) fun L230_ h23_ => ?_
     have hz23_ := hI.size
     replace hI := h23_.1
     have u23_ := h23_.2.1
     have hl23_ := h23_.2.2
     clear h23_
     clear hI23_ u23_ hl23_
     refine ⟨_, rfl, ?_⟩
     refine Ops_step (R_pick_true rfl rfl) rfl rfl (Ops_step (R_assign rfl) rfl rfl ?_)
     refine Ops_nil ?_
     refine then_n (k18 _ _ ?_)
     clear k18 K18
     refine W_keepB [2] fun B_ b_ => ?_
     simp only [e_, Nat.reduceAdd, Nat.reduceBEq] at b_
     subst b_
     refine W_ret ?_
     refine ⟨_, ⟨_, _, rfl, rfl, rfl⟩, ?_⟩
     exact ⟨r23_0, _, _, rfl, hI, h⟩
    ·
     replace h := h.2 hg22_
     refine Ops_pass rfl rfl (Ops_step (R_pick_false rfl rfl) rfl rfl (Ops_step (R_assign rfl) rfl rfl ?_))
     refine Ops_nil ?_
     refine then_n (k18 _ _ ?_)
     clear k18 K18
     refine W_keepB [2] fun B_ b_ => ?_
     simp only [e_, Nat.reduceAdd, Nat.reduceBEq] at b_
     subst b_
     refine W_ret ?_
     refine ⟨_, ⟨_, _, rfl, rfl, rfl⟩, ?_⟩
     exact ⟨false, _, _, rfl, hI, h⟩
   ·
    replace h := h.2 hg21_
    refine Ops_pass rfl rfl (Ops_pass rfl rfl (Ops_pass rfl rfl (Ops_step (R_pick_false rfl rfl) rfl rfl (Ops_step (R_move rfl) rfl rfl ?_))))
    refine Ops_pass rfl rfl (Ops_step (R_pick_false rfl rfl) rfl rfl (Ops_step (R_assign rfl) rfl rfl ?_))
    refine Ops_nil ?_
    refine then_n (k18 _ _ ?_)
    clear k18 K18
    refine W_keepB [2] fun B_ b_ => ?_
    simp only [e_, Nat.reduceAdd, Nat.reduceBEq] at b_
    subst b_
    refine W_ret ?_
    refine ⟨_, ⟨_, _, rfl, rfl, rfl⟩, ?_⟩
    exact ⟨false, _, _, rfl, hI, h⟩
  ·
   replace h := h.2 hg20_
   refine Ops_pass rfl rfl (Ops_pass rfl rfl (Ops_pass rfl rfl (Ops_step (R_pick_false rfl rfl) rfl rfl (Ops_step (R_move rfl) rfl rfl ?_))))
   refine Ops_pass rfl rfl (Ops_pass rfl rfl (Ops_pass rfl rfl (Ops_step (R_pick_false rfl rfl) rfl rfl (Ops_step (R_move rfl) rfl rfl ?_))))
   refine Ops_pass rfl rfl (Ops_step (R_pick_false rfl rfl) rfl rfl (Ops_step (R_assign rfl) rfl rfl ?_))
   refine Ops_nil ?_
   refine then_n (k18 _ _ ?_)
   clear k18 K18
   refine W_keepB [2] fun B_ b_ => ?_
   simp only [e_, Nat.reduceAdd, Nat.reduceBEq] at b_
   subst b_
   refine W_ret ?_
   refine ⟨_, ⟨_, _, rfl, rfl, rfl⟩, ?_⟩
   exact ⟨false, _, _, rfl, hI, h⟩

end Go.Proofs.YtbjmngacjdcddaaDoor

