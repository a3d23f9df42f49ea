/- What is shown of the program on the way to the law. -/
import Derived.Test.YtbjmngacjdcddaaDoorZW2
import Derived.Test.YtbjmngacjdcddaaDoorZW20
import Derived.Test.YtbjmngacjdcddaaDoorProg
set_option linter.unusedVariables false
set_option linter.unusedSimpArgs false
set_option maxHeartbeats 4000000
namespace Go.Proofs.YtbjmngacjdcddaaDoor
open Go Go.Sx Go.Lx
namespace TFmWraps
theorem hm : Tryd.prog.follows .mixedOrders = true := by kernel_rfl
theorem ag30 : aggB Tryd.prog 30 = some false := by kernel_rfl
theorem ag32 : aggB Tryd.prog 32 = some true := by kernel_rfl
theorem bd13 : bodied Tryd.prog 13 = true := by kernel_rfl
theorem bd24 : bodied Tryd.prog 24 = true := by kernel_rfl
theorem bd26 : bodied Tryd.prog 26 = true := by kernel_rfl
theorem bd29 : bodied Tryd.prog 29 = true := by kernel_rfl
theorem bd30 : bodied Tryd.prog 30 = true := by kernel_rfl
theorem bd31 : bodied Tryd.prog 31 = true := by kernel_rfl
theorem fo32_3 : offB Tryd.prog 32 3 = some 3 := by kernel_rfl
theorem sz32 : sz Tryd.prog 32 = some 4 := by kernel_rfl
end TFmWraps
open TFmWraps
theorem sealskinlaw13_FrameWraps_ok {G : Gh} {w : World} (hS : St G w) (hg : GL G) {A0 : Option Addr} {c0 : Nat} {x0 : List UInt8} (hc0 : x0.length ≤ c0) (hs0 : Sl G A0 x0) {x1 : Bool} {l2 : List Value} {x2 : api_Frame} (hr2 : Rp.cs G x2 l2) {Q : Bool → Prop} (h : sealskinlaw13_FrameWraps x0 x1 x2 Q) : Calls Tryd.prog 8 #[.slice A0 x0.length c0, .bool x1, .agg l2.toArray] w fun e w2 => ∃ (r0 : Bool) (L H : Gh), e = .returned (.bool r0) ∧ Inv [] G w L H w2 ∧ Q r0 := by
 unfold sealskinlaw13_FrameWraps at h
 have hI := Inv.start (M := []) hS
 refine calls_W 57 Tryd.func8 rfl Tryd.ntmps8 rfl [.tmp 6] rfl ?_
 obtain ⟨A2_1, c2_1, rfl, ⟨hc2_1, hs2_1⟩⟩ := hr2
 refine W_seq_k fun K1 k1 => ?_
 refine W_region [5, 6] rfl ?_
 have hI0_ := hI
 refine Ops_to (R_box rfl) rfl rfl ?_
 rintro _ w2_ ⟨b2_, rfl, hb2_, hB2_, hF2_⟩
 replace hI := hI.fr0 hF2_
 have ht2_ : Tok G _ b2_ 32 ([vi x2.Conn_, vi x2.Seq_, vi x2.Ack_, .slice A2_1 x2.Body_.length c2_1]) := ⟨hB2_.to rfl, Out.ge hI0_.st (Nat.le_of_eq hb2_.symm)⟩
 have hge_b2_ : w.heap.size ≤ b2_ := hb2_ ▸ hI0_.size
 clear hB2_ hb2_ hI0_ hF2_
 refine Ops_step (R_assign rfl) rfl rfl ?_
 refine Ops_nil ?_
 refine then_n (k1 _ _ ?_)
 clear k1 K1
 refine W_seq_k fun K3 k3 => ?_
 refine ex_ h fun J4_ hr4_ h => ?_
 refine W_seq_join [0, 1, 5] [25] (fun vals_ w2 => ∃ (x25_4 : Bool) (L H : Gh), vals_ = [.bool x25_4] ∧ J4_ x25_4 ∧ Inv [] G w L H w2 ∧ Le Gh.no L ∧ Le G H ∧ Tok H w2 b2_ 32 ([vi x2.Conn_, vi x2.Seq_, vi x2.Ack_, .slice A2_1 x2.Body_.length c2_1]) ∧ True) (fun B_ b_ => ?_) (fun B_ b_ => ?_)
 ·
  simp only [e_, Nat.reduceAdd, Nat.reduceBEq] at b_
  subst b_
  clear hr4_
  have hll4_ := Le.refl Gh.no
  have hhh4_ := Le.refl G
  refine W_region [11, 12, 13, 14, 15, 16, 17, 18, 19, 20, 21, 22, 23, 24, 25] rfl (Ops_step (R_move rfl) rfl rfl (Ops_step (R_len Tryd.underlying30 rfl rfl) rfl rfl (Ops_step (R_gtr rfl rfl) rfl rfl (Ops_step (R_move rfl) rfl rfl ?_))))
  refine Ops_split 14 rfl (fun hg5_ => ?_) (fun hg5_ => ?_)
  ·
   replace h := h.1 hg5_
   refine Ops_pass rfl rfl (Ops_pass rfl rfl (Ops_pass rfl rfl (Ops_pass rfl rfl (Ops_pass rfl rfl ?_))))
   refine Ops_passU rfl rfl (Ops_passU rfl rfl (Ops_passU rfl rfl (Ops_passU rfl rfl (Ops_pass rfl rfl ?_))))
   refine Ops_step (R_pick_true rfl rfl) rfl rfl ?_
   refine Ops_nil ?_
   refine then_n ?_
   exact ⟨_, rfl, ⟨true, _, _, rfl, h, hI, hll4_, hhh4_, ht2_, trivial⟩, ⟨rfl, rfl, rfl, trivial⟩⟩
  ·
   replace h := h.2 hg5_
   refine Ops_step (R_fieldAddr fo32_3 rfl) rfl rfl ?_
   refine Ops_step (R_loadB (v := .slice A2_1 x2.Body_.length c2_1) ag30 rfl ht2_.blk rfl) rfl rfl ?_
   refine Ops_step (R_len Tryd.underlying30 rfl rfl) rfl rfl (Ops_step (R_gtr rfl rfl) rfl rfl (Ops_step (R_move rfl) rfl rfl ?_))
   refine Ops_split 19 rfl (fun hg6_ => ?_) (fun hg6_ => ?_)
   ·
    replace h := h.1 hg6_
    refine Ops_step (R_fieldAddr fo32_3 rfl) rfl rfl ?_
    refine Ops_step (R_loadB (v := .slice A2_1 x2.Body_.length c2_1) ag30 rfl ht2_.blk rfl) rfl rfl ?_
    refine Ops_step (R_len Tryd.underlying30 rfl rfl) rfl rfl (Ops_step (R_leq rfl rfl) rfl rfl (Ops_step (R_pick_true rfl rfl) rfl rfl (Ops_step (R_pick_false rfl rfl) rfl rfl ?_)))
    refine Ops_nil ?_
    refine then_n ?_
    exact ⟨_, rfl, ⟨(decide ((x2.Body_.length : Int) ≤ 16384)), _, _, rfl, h, hI, hll4_, hhh4_, ht2_, trivial⟩, ⟨rfl, rfl, rfl, trivial⟩⟩
   ·
    replace h := h.2 hg6_
    refine Ops_pass rfl rfl (Ops_pass rfl rfl (Ops_pass rfl rfl (Ops_pass rfl rfl (Ops_step (R_pick_false rfl rfl) rfl rfl ?_))))
    refine Ops_step (R_pick_false rfl rfl) rfl rfl ?_
    refine Ops_nil ?_
    refine then_n ?_
    exact ⟨_, rfl, ⟨false, _, _, rfl, h, hI, hll4_, hhh4_, ht2_, trivial⟩, ⟨rfl, rfl, rfl, trivial⟩⟩
 ·
  simp only [e_, Nat.reduceAdd, Nat.reduceBEq] at b_
  subst b_
  clear h
  clear ht2_
  rintro _ w4_ ⟨x25_4, L4_, H4_, rfl, hJ4_, hI4_, hll4_, hhh4_, ht2_, -⟩
  replace hI := hI4_
  clear hI4_
  have h := hr4_ x25_4 hJ4_
  clear hr4_ hJ4_
  replace hs0 := hs0.up hhh4_
  replace hs2_1 := hs2_1.up hhh4_
  refine W_cond rfl (fun hc7_ => ?_) (fun hc7_ => ?_)
  ·
   replace h := h.1 hc7_
   refine W_seq_k fun K8 k8 => ?_
   refine W_region [26, 6] rfl ?_
   refine Ops_call (C_func bd13 rfl) rfl rfl ?_
   refine (sealskinlaw13_awake_ok  hI.st (hg.up hI.le)  h).mono ?_
   rintro _ w9_ ⟨r9_0, L9_, H9_, rfl, hI9_, h⟩
   refine Exists.elim (hI.call hI9_ (by simp)) fun L90_ h9_ => ?_
   have hz9_ := hI.size
   replace hI := h9_.1
   have u9_ := h9_.2.1
   have hl9_ := h9_.2.2
   clear h9_
   clear hI9_ u9_ hl9_
   refine ⟨_, rfl, ?_⟩
   refine Ops_step (R_assign rfl) rfl rfl ?_
   refine Ops_nil ?_
   refine then_n (k8 _ _ ?_)
   clear k8 K8
   refine W_ret ?_
   refine then_ret ?_
   clear k3 K3
   refine ⟨_, ⟨_, _, rfl, rfl, rfl⟩, ?_⟩
   exact ⟨r9_0, _, _, rfl, hI, h⟩
  ·
   replace h := h.2 hc7_
   refine W_skip ?_
   refine then_n (k3 _ _ ?_)
   clear k3 K3
   refine W_seq_k fun K10 k10 => ?_
   refine W_seq_k fun K11 k11 => ?_
   refine W_drawF [27, 28, 29, 30, 31] [(0, true), (2, true), (1, false), (3, false), (4, true)] TFmWraps.hm rfl (by kernel_rfl) fun ops12_ w12_ hops12_ hF12_ => ?_
   replace hI := hI.fr0 hF12_
   replace ht2_ := ht2_.fr0 hF12_
   clear hF12_
   refine HS_loadN ag32 sz32 rfl ht2_.blk (Nat.le_of_ble_eq_true rfl) rfl rfl ?_
   refine HS_loadN ag32 sz32 rfl ht2_.blk (Nat.le_of_ble_eq_true rfl) rfl rfl ?_
   refine HS_call [2] _ rfl (by rw [hops12_]; kernel_rfl) (C_func bd24 rfl) rfl rfl ?_
   refine (frame_Fits_ok (x0 := x2) hI.st (hg.up hI.le) ⟨A2_1, c2_1, rfl, ⟨hc2_1, hs2_1⟩⟩ h).mono ?_
   rintro _ w13_ ⟨r13_0, L13_, H13_, rfl, hI13_, h⟩
   refine Exists.elim (hI.call hI13_ (by simp)) fun L130_ h13_ => ?_
   have hz13_ := hI.size
   replace hI := h13_.1
   have u13_ := h13_.2.1
   have hl13_ := h13_.2.2
   clear h13_
   replace hs0 := hs0.up u13_.hh
   replace hs2_1 := hs2_1.up u13_.hh
   replace ht2_ := ht2_.up u13_ (by simp)
   clear hI13_ u13_ hl13_
   refine ⟨_, rfl, ⟨ht2_.blk, trivial⟩, ?_⟩
   refine HS_call [] _ rfl (by rw [hops12_]; kernel_rfl) (C_func bd29 rfl) rfl rfl ?_
   refine (sealskinref13_Fits_ok (x0 := x2) hI.st (hg.up hI.le) ⟨A2_1, c2_1, rfl, ⟨hc2_1, hs2_1⟩⟩ h).mono ?_
   rintro _ w14_ ⟨r14_0, L14_, H14_, rfl, hI14_, h⟩
   refine Exists.elim (hI.call hI14_ (by simp)) fun L140_ h14_ => ?_
   have hz14_ := hI.size
   replace hI := h14_.1
   have u14_ := h14_.2.1
   have hl14_ := h14_.2.2
   clear h14_
   replace hs0 := hs0.up u14_.hh
   replace hs2_1 := hs2_1.up u14_.hh
   replace ht2_ := ht2_.up u14_ (by simp)
   clear hI14_ u14_ hl14_
   refine ⟨_, rfl, trivial, ?_⟩
   refine HSp (R_neq rfl rfl) rfl rfl ?_
   refine HS_nil ?_
   clear hops12_
   refine then_n (k11 _ _ ?_)
   clear k11 K11
   refine W_if rfl (fun hc15_ => ?_) (fun hc15_ => ?_)
   ·
    replace h := h.1 hc15_
    refine W_seq_k fun K16 k16 => ?_
    refine W_region [6] rfl (Ops_step (R_assign rfl) rfl rfl ?_)
    refine Ops_nil ?_
    refine then_n (k16 _ _ ?_)
    clear k16 K16
    refine W_keepB [6] fun B_ b_ => ?_
    simp only [e_, Nat.reduceAdd, Nat.reduceBEq] at b_
    subst b_
    refine W_ret ?_
    refine then_ret ?_
    clear k10 K10
    refine ⟨_, ⟨_, _, rfl, rfl, rfl⟩, ?_⟩
    exact ⟨false, _, _, rfl, hI, h⟩
   ·
    replace h := h.2 hc15_
    refine W_skip ?_
    refine then_n (k10 _ _ ?_)
    clear k10 K10
    refine W_keepB [0, 1, 5] fun B_ b_ => ?_
    simp only [e_, Nat.reduceAdd, Nat.reduceBEq] at b_
    subst b_
    refine W_seq_k fun K19 k19 => ?_
    refine W_region [33, 34, 35, 36, 32, 37, 38, 7, 8] rfl (Ops_step (R_move rfl) rfl rfl (Ops_step (R_move rfl) rfl rfl (Ops_step (R_loadN ag32 sz32 rfl ht2_.blk (Nat.le_of_ble_eq_true rfl)) rfl rfl ?_)))
    refine Ops_call (C_func bd30 rfl) rfl rfl ?_
    refine (frame_Wrap_ok (x0 := x0) (x1 := x1) (x2 := x2) hI.st (hg.up hI.le) hc0 hs0 ⟨A2_1, c2_1, rfl, ⟨hc2_1, hs2_1⟩⟩ h).mono ?_
    rintro _ w20_ ⟨A20_0, c20_0, r20_0, r20_1, L20_, H20_, rfl, hI20_, hc20_0, hs20_0, h⟩
    refine Exists.elim (hI.call hI20_ (by simp)) fun L200_ h20_ => ?_
    have hz20_ := hI.size
    replace hI := h20_.1
    have u20_ := h20_.2.1
    have hl20_ := h20_.2.2
    clear h20_
    replace hs0 := hs0.up u20_.hh
    replace hs2_1 := hs2_1.up u20_.hh
    replace ht2_ := ht2_.up u20_ (by simp)
    replace hs20_0 := hs20_0.up hl20_
    clear hI20_ u20_ hl20_
    refine ⟨_, rfl, ?_⟩
    refine Ops_step (R_move rfl) rfl rfl ?_
    refine Ops_step (R_extract (v := .slice A20_0 r20_0.length c20_0) rfl rfl) rfl rfl ?_
    refine Ops_step (R_extract (v := vi r20_1) rfl rfl) rfl rfl ?_
    refine Ops_step (R_assign rfl) rfl rfl (Ops_step (R_assign rfl) rfl rfl ?_)
    refine Ops_nil ?_
    refine then_n (k19 _ _ ?_)
    clear k19 K19
    refine W_keepB [0, 1, 5, 7, 8] fun B_ b_ => ?_
    simp only [e_, Nat.reduceAdd, Nat.reduceBEq] at b_
    subst b_
    refine W_seq_k fun K22 k22 => ?_
    refine W_region [40, 41, 42, 43, 39, 44, 45, 9, 10] rfl (Ops_step (R_move rfl) rfl rfl (Ops_step (R_move rfl) rfl rfl (Ops_step (R_loadN ag32 sz32 rfl ht2_.blk (Nat.le_of_ble_eq_true rfl)) rfl rfl ?_)))
    refine Ops_call (C_func bd31 rfl) rfl rfl ?_
    refine (sealskinref13_Wrap_ok (x0 := x0) (x1 := x1) (x2 := x2) hI.st (hg.up hI.le) hc0 hs0 ⟨A2_1, c2_1, rfl, ⟨hc2_1, hs2_1⟩⟩ h).mono ?_
    rintro _ w23_ ⟨A23_0, c23_0, r23_0, r23_1, L23_, H23_, rfl, hI23_, ho23_0, h⟩
    refine Exists.elim (hI.call hI23_ (by simp)) fun L230_ h23_ => ?_
    have hz23_ := hI.size
    replace hI := h23_.1
    have u23_ := h23_.2.1
    have hl23_ := h23_.2.2
    clear h23_
    replace hs20_0 := hs20_0.up u23_.ll
    replace ho23_0 := OwnS.backS ho23_0 hz23_ (Le.refl _)
    clear hI23_ u23_ hl23_
    refine ⟨_, rfl, ?_⟩
    refine Exists.elim (ho23_0.freeze hI) fun L24_ h24_ => Exists.elim h24_ fun H24_ h24_ => ?_
    replace hI := h24_.1
    have u24_ := h24_.2.1
    have hs24_ := h24_.2.2.1 (Le.no _)
    have hc24_ := ho23_0.cap
    replace hs20_0 := hs20_0.up u24_.ll
    clear h24_ u24_ ho23_0
    refine Ops_step (R_move rfl) rfl rfl ?_
    refine Ops_step (R_extract (v := .slice A23_0 r23_0.length c23_0) rfl rfl) rfl rfl ?_
    refine Ops_step (R_extract (v := vi r23_1) rfl rfl) rfl rfl ?_
    refine Ops_step (R_assign rfl) rfl rfl (Ops_step (R_assign rfl) rfl rfl ?_)
    refine Ops_nil ?_
    refine then_n (k22 _ _ ?_)
    clear k22 K22
    refine W_keepB [7, 8, 9, 10] fun B_ b_ => ?_
    simp only [e_, Nat.reduceAdd, Nat.reduceBEq] at b_
    subst b_
    refine W_seq_k fun K26 k26 => ?_
    refine W_region [46, 47, 48, 49, 50, 51, 52, 53, 54, 55, 56, 6] rfl (Ops_step (R_move rfl) rfl rfl (Ops_step (R_move rfl) rfl rfl ?_))
    refine Ops_call (C_func bd26 rfl) rfl rfl ?_
    refine (bytes_Equal_ok (x0 := r20_0) (x1 := r23_0) hI.st (hg.up hI.le) hc20_0 (hs20_0.up hI.sub) hc24_ (hs24_.up hI.sub) h).mono ?_
    rintro _ w27_ ⟨r27_0, L27_, H27_, rfl, hI27_, h⟩
    refine Exists.elim (hI.call hI27_ (by simp)) fun L270_ h27_ => ?_
    have hz27_ := hI.size
    replace hI := h27_.1
    have u27_ := h27_.2.1
    have hl27_ := h27_.2.2
    clear h27_
    clear hI27_ u27_ hl27_
    refine ⟨_, rfl, ?_⟩
    refine Ops_step (R_move rfl) rfl rfl ?_
    refine Ops_splitB 49 rfl (fun hg28_ => ?_) (fun hg28_ => ?_)
    ·
     replace h := h.1 hg28_
     refine Ops_step (R_move rfl) rfl rfl (Ops_step (R_move rfl) rfl rfl (Ops_step (R_eql rfl rfl) rfl rfl (Ops_step (R_pick_true rfl rfl) rfl rfl (Ops_step (R_move rfl) rfl rfl ?_))))
     refine Ops_split 54 rfl (fun hg29_ => ?_) (fun hg29_ => ?_)
     ·
      replace h := h.1 hg29_
      refine Ops_call (C_func bd13 rfl) rfl rfl ?_
      refine (sealskinlaw13_awake_ok  hI.st (hg.up hI.le)  h).mono ?_
      rintro _ w30_ ⟨r30_0, L30_, H30_, rfl, hI30_, h⟩
      refine Exists.elim (hI.call hI30_ (by simp)) fun L300_ h30_ => ?_
      have hz30_ := hI.size
      replace hI := h30_.1
      have u30_ := h30_.2.1
      have hl30_ := h30_.2.2
      clear h30_
      clear hI30_ u30_ hl30_
      refine ⟨_, rfl, ?_⟩
      refine Ops_step (R_pick_true rfl rfl) rfl rfl (Ops_step (R_assign rfl) rfl rfl ?_)
      refine Ops_nil ?_
      refine then_n (k26 _ _ ?_)
      clear k26 K26
      refine W_keepB [6] fun B_ b_ => ?_
      simp only [e_, Nat.reduceAdd, Nat.reduceBEq] at b_
      subst b_
      refine W_ret ?_
      refine ⟨_, ⟨_, _, rfl, rfl, rfl⟩, ?_⟩
      exact ⟨r30_0, _, _, rfl, hI, h⟩
     ·
      replace h := h.2 hg29_
      refine Ops_pass rfl rfl (Ops_step (R_pick_false rfl rfl) rfl rfl (Ops_step (R_assign rfl) rfl rfl ?_))
      refine Ops_nil ?_
      refine then_n (k26 _ _ ?_)
      clear k26 K26
      refine W_keepB [6] fun B_ b_ => ?_
      simp only [e_, Nat.reduceAdd, Nat.reduceBEq] at b_
      subst b_
      refine W_ret ?_
      refine ⟨_, ⟨_, _, rfl, rfl, rfl⟩, ?_⟩
      exact ⟨false, _, _, rfl, hI, h⟩
    ·
     replace h := h.2 hg28_
     refine Ops_pass rfl rfl (Ops_pass rfl rfl (Ops_pass rfl rfl (Ops_step (R_pick_false rfl rfl) rfl rfl (Ops_step (R_move rfl) rfl rfl ?_))))
     refine Ops_pass rfl rfl (Ops_step (R_pick_false rfl rfl) rfl rfl (Ops_step (R_assign rfl) rfl rfl ?_))
     refine Ops_nil ?_
     refine then_n (k26 _ _ ?_)
     clear k26 K26
     refine W_keepB [6] fun B_ b_ => ?_
     simp only [e_, Nat.reduceAdd, Nat.reduceBEq] at b_
     subst b_
     refine W_ret ?_
     refine ⟨_, ⟨_, _, rfl, rfl, rfl⟩, ?_⟩
     exact ⟨false, _, _, rfl, hI, h⟩

end Go.Proofs.YtbjmngacjdcddaaDoor

