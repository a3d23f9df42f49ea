/- What is shown of the program on the way to the law. -/
import Derived.Test.YtbjmngacjdcddaaDoorZG2
import Derived.Test.YtbjmngacjdcddaaDoorZG20
import Derived.Test.YtbjmngacjdcddaaDoorProg
set_option linter.unusedVariables false
set_option linter.unusedSimpArgs false
set_option maxHeartbeats 4000000
namespace Go.Proofs.YtbjmngacjdcddaaDoor
open Go Go.Sx Go.Lx
namespace TFmGets
theorem hm : Tryd.prog.follows .mixedOrders = true := by kernel_rfl
theorem ag25 : aggB Tryd.prog 25 = some true := by kernel_rfl
theorem bd13 : bodied Tryd.prog 13 = true := by kernel_rfl
theorem bd26 : bodied Tryd.prog 26 = true := by kernel_rfl
theorem bd32 : bodied Tryd.prog 32 = true := by kernel_rfl
theorem bd33 : bodied Tryd.prog 33 = true := by kernel_rfl
theorem bd34 : bodied Tryd.prog 34 = true := by kernel_rfl
theorem bd35 : bodied Tryd.prog 35 = true := by kernel_rfl
theorem sz25 : sz Tryd.prog 25 = some 9 := by kernel_rfl
theorem zr25 : zr Tryd.prog 25 = some ([.int .i64 0] ++ [.int .i64 0] ++ [.int .i64 0] ++ [.int .i64 0] ++ [.int .i64 0] ++ [.int .i64 0] ++ [.int .i64 0] ++ [.int .i64 0] ++ [.slice none 0 0]) := by kernel_rfl
end TFmGets
open TFmGets
theorem sealskinlaw13_FrameGets_ok {G : Gh} {w : World} (hS : St G w) (hg : GL G) {A0 : Option Addr} {c0 : Nat} {x0 : List UInt8} (hc0 : x0.length ≤ c0) (hs0 : Sl G A0 x0) {Q : Bool → Prop} (h : sealskinlaw13_FrameGets x0 Q) : Calls Tryd.prog 11 #[.slice A0 x0.length c0] w fun e w2 => ∃ (r0 : Bool) (L H : Gh), e = .returned (.bool r0) ∧ Inv [] G w L H w2 ∧ Q r0 := by
 unfold sealskinlaw13_FrameGets at h
 have hI := Inv.start (M := []) hS
 refine calls_W 40 Tryd.func11 rfl Tryd.ntmps11 rfl [.tmp 2] rfl ?_
 refine W_seq_k fun K1 k1 => ?_
 refine W_region [2] rfl (Ops_step (R_assign rfl) rfl rfl ?_)
 refine Ops_nil ?_
 refine then_n (k1 _ _ ?_)
 clear k1 K1
 refine W_seq_k fun K2 k2 => ?_
 refine W_seq_k fun K3 k3 => ?_
 refine W_region [8, 9, 10] rfl (Ops_step (R_move rfl) rfl rfl (Ops_step (R_len Tryd.underlying30 rfl rfl) rfl rfl (Ops_step (R_gtr rfl rfl) rfl rfl ?_)))
 refine Ops_nil ?_
 refine then_n (k3 _ _ ?_)
 clear k3 K3
 refine W_if rfl (fun hc4_ => ?_) (fun hc4_ => ?_)
 ·
  replace h := h.1 hc4_
  refine W_seq_k fun K5 k5 => ?_
  refine W_region [11, 2] rfl ?_
  refine Ops_call (C_func bd13 rfl) rfl rfl ?_
  refine (sealskinlaw13_awake_ok  hI.st (hg.up hI.le)  h).mono ?_
  rintro _ w6_ ⟨r6_0, L6_, H6_, rfl, hI6_, h⟩
  refine Exists.elim (hI.call hI6_ (by simp)) fun L60_ h6_ => ?_
  have hz6_ := hI.size
  replace hI := h6_.1
  have u6_ := h6_.2.1
  have hl6_ := h6_.2.2
  clear h6_
  clear hI6_ u6_ hl6_
  refine ⟨_, rfl, ?_⟩
  refine Ops_step (R_assign rfl) rfl rfl ?_
  refine Ops_nil ?_
  refine then_n (k5 _ _ ?_)
  clear k5 K5
  refine W_ret ?_
  refine then_ret ?_
  clear k2 K2
  refine ⟨_, ⟨_, _, rfl, rfl, rfl⟩, ?_⟩
  exact ⟨r6_0, _, _, rfl, hI, h⟩
 ·
  replace h := h.2 hc4_
  refine W_skip ?_
  refine then_n (k2 _ _ ?_)
  clear k2 K2
  refine W_seq_k fun K7 k7 => ?_
  refine W_region [12, 13, 3] rfl (Ops_step (R_move rfl) rfl rfl ?_)
  refine Ops_call (C_func bd34 rfl) rfl rfl ?_
  refine (slices_Clone_sl_byte_byte_ok (x0 := x0) hI.st (hg.up hI.le) hc0 hs0 h).mono ?_
  rintro _ w8_ ⟨A8_0, c8_0, r8_0, L8_, H8_, rfl, hI8_, ho8_0, h⟩
  refine Exists.elim (hI.call hI8_ (by simp)) fun L80_ h8_ => ?_
  have hz8_ := hI.size
  replace hI := h8_.1
  have u8_ := h8_.2.1
  have hl8_ := h8_.2.2
  clear h8_
  replace hs0 := hs0.up u8_.hh
  replace ho8_0 := OwnS.backS ho8_0 hz8_ (Le.refl _)
  clear hI8_ u8_ hl8_
  refine ⟨_, rfl, ?_⟩
  refine Exists.elim (ho8_0.freeze hI) fun L9_ h9_ => Exists.elim h9_ fun H9_ h9_ => ?_
  replace hI := h9_.1
  have u9_ := h9_.2.1
  have hs9_ := h9_.2.2.1 (Le.no _)
  have hc9_ := ho8_0.cap
  replace hs0 := hs0.up u9_.hh
  clear h9_ u9_ ho8_0
  refine Ops_step (R_assign rfl) rfl rfl ?_
  refine Ops_nil ?_
  refine then_n (k7 _ _ ?_)
  clear k7 K7
  refine W_keepB [0, 3] fun B_ b_ => ?_
  simp only [e_, Nat.reduceAdd, Nat.reduceBEq] at b_
  subst b_
  refine W_seq_k fun K11 k11 => ?_
  refine W_region [15, 16, 14, 17, 18, 4, none, 5] rfl (Ops_step (R_move rfl) rfl rfl ?_)
  refine Ops_call (C_func bd32 rfl) rfl rfl ?_
  refine (frame_Get_ok (x0 := r8_0) hI.st (hg.up hI.le) hc9_ (hs9_.up hI.sub) h).mono ?_
  rintro _ w12_ ⟨l12_0, r12_0, r12_1, L12_, H12_, rfl, hI12_, hr12_0, h⟩
  refine Exists.elim (hI.call hI12_ (by simp)) fun L120_ h12_ => ?_
  have hz12_ := hI.size
  replace hI := h12_.1
  have u12_ := h12_.2.1
  have hl12_ := h12_.2.2
  clear h12_
  replace hs0 := hs0.up u12_.hh
  replace hs9_ := hs9_.up u12_.ll
  obtain ⟨A12_0_1, c12_0_1, rfl, ⟨hc12_0_1, hs12_0_1⟩⟩ := hr12_0
  clear hI12_ u12_ hl12_
  refine ⟨_, rfl, ?_⟩
  refine Ops_step (R_move rfl) rfl rfl ?_
  refine Ops_step (R_extract (v := .agg #[vi r12_0.Kind_, vi r12_0.Who_, vi r12_0.Seq_, vi r12_0.Rev_, vi r12_0.At_, vi r12_0.N_, vi r12_0.Target_, vi r12_0.Err_, .slice A12_0_1 r12_0.Edit_.length c12_0_1]) rfl rfl) rfl rfl ?_
  refine Ops_step (R_extract (v := vi r12_1) rfl rfl) rfl rfl ?_
  have hI0_ := hI
  refine Ops_to (R_alloc zr25) rfl rfl ?_
  rintro _ w13_ ⟨b13_, rfl, hb13_, hB13_, hF13_⟩
  replace hI := hI.fr0 hF13_
  have ht13_ : Tok H12_ _ b13_ 25 ([vi 0, vi 0, vi 0, vi 0, vi 0, vi 0, vi 0, vi 0, .slice none 0 0]) := ⟨hB13_.to rfl, Out.ge hI0_.st (Nat.le_of_eq hb13_.symm)⟩
  have hge_b13_ : w.heap.size ≤ b13_ := hb13_ ▸ hI0_.size
  clear hB13_ hb13_ hI0_ hF13_
  refine Ops_to0 (R_storeN sz25 rfl rfl rfl ht13_.blk (Nat.le_of_ble_eq_true rfl) rfl) rfl ?_
  rintro _ w14_ ⟨hB14_, hF14_⟩
  replace hI := hI.tok hF14_ (out1 ht13_.out) (new1 hge_b13_)
  replace ht13_ : Tok H12_ _ b13_ 25 ([vi r12_0.Kind_, vi r12_0.Who_, vi r12_0.Seq_, vi r12_0.Rev_, vi r12_0.At_, vi r12_0.N_, vi r12_0.Target_, vi r12_0.Err_, .slice A12_0_1 r12_0.Edit_.length c12_0_1]) := ⟨hB14_, ht13_.out⟩
  clear hF14_ hB14_
  refine Ops_step (R_assign rfl) rfl rfl ?_
  refine Ops_nil ?_
  refine then_n (k11 _ _ ?_)
  clear k11 K11
  refine W_seq_k fun K15 k15 => ?_
  refine W_region [20, 21, 19, 22, 23, 6, none, 7] rfl (Ops_step (R_move rfl) rfl rfl ?_)
  refine Ops_call (C_func bd35 rfl) rfl rfl ?_
  refine (sealskinref13_Get_ok (x0 := x0) hI.st (hg.up hI.le) hc0 hs0 h).mono ?_
  rintro _ w16_ ⟨l16_0, r16_0, r16_1, L16_, H16_, rfl, hI16_, hr16_0, h⟩
  refine Exists.elim (hI.call hI16_ (by simp)) fun L160_ h16_ => ?_
  have hz16_ := hI.size
  replace hI := h16_.1
  have u16_ := h16_.2.1
  have hl16_ := h16_.2.2
  clear h16_
  replace hs0 := hs0.up u16_.hh
  replace hs9_ := hs9_.up u16_.ll
  replace hs12_0_1 := hs12_0_1.up u16_.hh
  replace ht13_ := ht13_.up u16_ (by simp)
  obtain ⟨A16_0_1, c16_0_1, rfl, ⟨hc16_0_1, hs16_0_1⟩⟩ := hr16_0
  clear hI16_ u16_ hl16_
  refine ⟨_, rfl, ?_⟩
  refine Ops_step (R_move rfl) rfl rfl ?_
  refine Ops_step (R_extract (v := .agg #[vi r16_0.Kind_, vi r16_0.Who_, vi r16_0.Seq_, vi r16_0.Rev_, vi r16_0.At_, vi r16_0.N_, vi r16_0.Target_, vi r16_0.Err_, .slice A16_0_1 r16_0.Edit_.length c16_0_1]) rfl rfl) rfl rfl ?_
  refine Ops_step (R_extract (v := vi r16_1) rfl rfl) rfl rfl ?_
  have hlo17_b13_ := ht13_.blk.lt
  have hI0_ := hI
  refine Ops_to (R_alloc zr25) rfl rfl ?_
  rintro _ w17_ ⟨b17_, rfl, hb17_, hB17_, hF17_⟩
  replace hI := hI.fr0 hF17_
  replace ht13_ := ht13_.fr0 hF17_
  have ht17_ : Tok H16_ _ b17_ 25 ([vi 0, vi 0, vi 0, vi 0, vi 0, vi 0, vi 0, vi 0, .slice none 0 0]) := ⟨hB17_.to rfl, Out.ge hI0_.st (Nat.le_of_eq hb17_.symm)⟩
  have hge_b17_ : w.heap.size ≤ b17_ := hb17_ ▸ hI0_.size
  have hne17_b13_ : b13_ ≠ b17_ := fun e_ => absurd hlo17_b13_ (by omega)
  clear hB17_ hb17_ hI0_ hF17_
  refine Ops_to0 (R_storeN sz25 rfl rfl rfl ht17_.blk (Nat.le_of_ble_eq_true rfl) rfl) rfl ?_
  rintro _ w18_ ⟨hB18_, hF18_⟩
  replace hI := hI.tok hF18_ (out1 ht17_.out) (new1 hge_b17_)
  replace ht13_ := ht13_.fr hF18_ (ne1 hne17_b13_)
  replace ht17_ : Tok H16_ _ b17_ 25 ([vi r16_0.Kind_, vi r16_0.Who_, vi r16_0.Seq_, vi r16_0.Rev_, vi r16_0.At_, vi r16_0.N_, vi r16_0.Target_, vi r16_0.Err_, .slice A16_0_1 r16_0.Edit_.length c16_0_1]) := ⟨hB18_, ht17_.out⟩
  clear hF18_ hB18_
  refine Ops_step (R_assign rfl) rfl rfl ?_
  refine Ops_nil ?_
  refine then_n (k15 _ _ ?_)
  clear k15 K15
  refine W_keepB [0, 3, 4, 5, 6, 7] fun B_ b_ => ?_
  simp only [e_, Nat.reduceAdd, Nat.reduceBEq] at b_
  subst b_
  refine W_seq_k fun K20 k20 => ?_
  refine W_region [24, 25, 26, 27, 28, 29, 30, 31, 32, 33, 34, 35, 36, 37, 38, 39, 2] rfl (Ops_step (R_loadN ag25 sz25 rfl ht13_.blk (Nat.le_of_ble_eq_true rfl)) rfl rfl (Ops_step (R_loadN ag25 sz25 rfl ht17_.blk (Nat.le_of_ble_eq_true rfl)) rfl rfl ?_))
  refine Ops_call (C_func bd33 rfl) rfl rfl ?_
  refine (sealskinref13_Same_ok (x0 := r12_0) (x1 := r16_0) hI.st (hg.up hI.le) ⟨A12_0_1, c12_0_1, rfl, ⟨hc12_0_1, hs12_0_1⟩⟩ ⟨A16_0_1, c16_0_1, rfl, ⟨hc16_0_1, hs16_0_1⟩⟩ h).mono ?_
  rintro _ w21_ ⟨r21_0, L21_, H21_, rfl, hI21_, h⟩
  refine Exists.elim (hI.call hI21_ (by simp)) fun L210_ h21_ => ?_
  have hz21_ := hI.size
  replace hI := h21_.1
  have u21_ := h21_.2.1
  have hl21_ := h21_.2.2
  clear h21_
  replace hs0 := hs0.up u21_.hh
  replace hs9_ := hs9_.up u21_.ll
  clear hI21_ u21_ hl21_
  refine ⟨_, rfl, ?_⟩
  refine Ops_step (R_move rfl) rfl rfl ?_
  refine Ops_splitB 27 rfl (fun hg22_ => ?_) (fun hg22_ => ?_)
  ·
   replace h := h.1 hg22_
   refine Ops_step (R_move rfl) rfl rfl (Ops_step (R_move rfl) rfl rfl (Ops_step (R_eql rfl rfl) rfl rfl (Ops_step (R_pick_true rfl rfl) rfl rfl (Ops_step (R_move rfl) rfl rfl ?_))))
   refine Ops_split 32 rfl (fun hg23_ => ?_) (fun hg23_ => ?_)
   ·
    replace h := h.1 hg23_
    refine Ops_step (R_move rfl) rfl rfl (Ops_step (R_move rfl) rfl rfl ?_)
    refine Ops_call (C_func bd26 rfl) rfl rfl ?_
    refine (bytes_Equal_ok (x0 := r8_0) (x1 := x0) hI.st (hg.up hI.le) hc9_ (hs9_.up hI.sub) hc0 hs0 h).mono ?_
    rintro _ w24_ ⟨r24_0, L24_, H24_, rfl, hI24_, h⟩
    refine Exists.elim (hI.call hI24_ (by simp)) fun L240_ h24_ => ?_
    have hz24_ := hI.size
    replace hI := h24_.1
    have u24_ := h24_.2.1
    have hl24_ := h24_.2.2
    clear h24_
    clear hI24_ u24_ hl24_
    refine ⟨_, rfl, ?_⟩
    refine Ops_step (R_pick_true rfl rfl) rfl rfl (Ops_step (R_move rfl) rfl rfl ?_)
    refine Ops_splitB 37 rfl (fun hg25_ => ?_) (fun hg25_ => ?_)
    ·
     replace h := h.1 hg25_
     refine Ops_call (C_func bd13 rfl) rfl rfl ?_
     refine (sealskinlaw13_awake_ok  hI.st (hg.up hI.le)  h).mono ?_
     rintro _ w26_ ⟨r26_0, L26_, H26_, rfl, hI26_, h⟩
     refine Exists.elim (hI.call hI26_ (by simp)) fun L260_ h26_ => ?_
     have hz26_ := hI.size
     replace hI := h26_.1
     have u26_ := h26_.2.1
     have hl26_ := h26_.2.2
     clear h26_
     clear hI26_ u26_ hl26_
     refine ⟨_, rfl, ?_⟩
     refine Ops_step (R_pick_true rfl rfl) rfl rfl (Ops_step (R_assign rfl) rfl rfl ?_)
     refine Ops_nil ?_
     refine then_n (k20 _ _ ?_)
     clear k20 K20
     refine W_keepB [2] fun B_ b_ => ?_
     simp only [e_, Nat.reduceAdd, Nat.reduceBEq] at b_
     subst b_
     refine W_ret ?_
     refine ⟨_, ⟨_, _, rfl, rfl, rfl⟩, ?_⟩
     exact ⟨r26_0, _, _, rfl, hI, h⟩
    ·
     replace h := h.2 hg25_
     refine Ops_pass rfl rfl (Ops_step (R_pick_false rfl rfl) rfl rfl (Ops_step (R_assign rfl) rfl rfl ?_))
     refine Ops_nil ?_
     refine then_n (k20 _ _ ?_)
     clear k20 K20
     refine W_keepB [2] fun B_ b_ => ?_
     simp only [e_, Nat.reduceAdd, Nat.reduceBEq] at b_
     subst b_
     refine W_ret ?_
     refine ⟨_, ⟨_, _, rfl, rfl, rfl⟩, ?_⟩
     exact ⟨false, _, _, rfl, hI, h⟩
   ·
    replace h := h.2 hg23_
    refine Ops_pass rfl rfl (Ops_pass rfl rfl (Ops_pass rfl rfl (Ops_step (R_pick_false rfl rfl) rfl rfl (Ops_step (R_move rfl) rfl rfl ?_))))
    refine Ops_pass rfl rfl (Ops_step (R_pick_false rfl rfl) rfl rfl (Ops_step (R_assign rfl) rfl rfl ?_))
    refine Ops_nil ?_
    refine then_n (k20 _ _ ?_)
    clear k20 K20
    refine W_keepB [2] fun B_ b_ => ?_
    simp only [e_, Nat.reduceAdd, Nat.reduceBEq] at b_
    subst b_
    refine W_ret ?_
    refine ⟨_, ⟨_, _, rfl, rfl, rfl⟩, ?_⟩
    exact ⟨false, _, _, rfl, hI, h⟩
  ·
   replace h := h.2 hg22_
   refine Ops_pass rfl rfl (Ops_pass rfl rfl (Ops_pass rfl rfl (Ops_step (R_pick_false rfl rfl) rfl rfl (Ops_step (R_move rfl) rfl rfl ?_))))
   refine Ops_pass rfl rfl (Ops_pass rfl rfl (Ops_pass rfl rfl (Ops_step (R_pick_false rfl rfl) rfl rfl (Ops_step (R_move rfl) rfl rfl ?_))))
   refine Ops_pass rfl rfl (Ops_step (R_pick_false rfl rfl) rfl rfl (Ops_step (R_assign rfl) rfl rfl ?_))
   refine Ops_nil ?_
   refine then_n (k20 _ _ ?_)
   clear k20 K20
   refine W_keepB [2] fun B_ b_ => ?_
   simp only [e_, Nat.reduceAdd, Nat.reduceBEq] at b_
   subst b_
   refine W_ret ?_
   refine ⟨_, ⟨_, _, rfl, rfl, rfl⟩, ?_⟩
   exact ⟨false, _, _, rfl, hI, h⟩

end Go.Proofs.YtbjmngacjdcddaaDoor

