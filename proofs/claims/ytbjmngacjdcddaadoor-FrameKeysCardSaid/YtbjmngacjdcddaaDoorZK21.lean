/- What is shown of the program on the way to the law. -/
import Derived.Test.YtbjmngacjdcddaaDoorZK2
import Derived.Test.YtbjmngacjdcddaaDoorZK20
import Derived.Test.YtbjmngacjdcddaaDoorProg
set_option linter.unusedVariables false
set_option linter.unusedSimpArgs false
set_option maxHeartbeats 4000000
namespace Go.Proofs.YtbjmngacjdcddaaDoor
open Go Go.Sx Go.Lx
namespace TFmKeys
theorem hm : Tryd.prog.follows .mixedOrders = true := by kernel_rfl
theorem bd13 : bodied Tryd.prog 13 = true := by kernel_rfl
theorem bd26 : bodied Tryd.prog 26 = true := by kernel_rfl
theorem bd27 : bodied Tryd.prog 27 = true := by kernel_rfl
theorem bd28 : bodied Tryd.prog 28 = true := by kernel_rfl
end TFmKeys
open TFmKeys
theorem sealskinlaw13_FrameKeys_ok {G : Gh} {w : World} (hS : St G w) (hg : GL G) {x0 : Str} {x1 : Int} {x2 : Int} {Q : Bool → Prop} (h : sealskinlaw13_FrameKeys x0 x1 x2 Q) : Calls Tryd.prog 7 #[vs x0, vi x1, vi x2] w fun e w2 => ∃ (r0 : Bool) (L H : Gh), e = .returned (.bool r0) ∧ Inv [] G w L H w2 ∧ Q r0 := by
 unfold sealskinlaw13_FrameKeys at h
 have hI := Inv.start (M := []) hS
 refine calls_W 24 Tryd.func7 rfl Tryd.ntmps7 rfl [.tmp 6] rfl ?_
 refine W_seq_k fun K1 k1 => ?_
 refine W_region [6] rfl (Ops_step (R_assign rfl) rfl rfl ?_)
 refine Ops_nil ?_
 refine then_n (k1 _ _ ?_)
 clear k1 K1
 refine W_seq_k fun K2 k2 => ?_
 refine W_region [7, 8, 9, 10, 11, 12, 13, 14, 15, 16, 17, 18, 19, 20, 21, 22, 23, 6] rfl (Ops_step (R_move rfl) rfl rfl ?_)
 refine Ops_step (X_lenStr (b := x0) Tryd.underlying9 rfl rfl) rfl rfl ?_
 refine Ops_step (R_gtr rfl rfl) rfl rfl (Ops_step (R_move rfl) rfl rfl ?_)
 refine Ops_split 10 rfl (fun hg3_ => ?_) (fun hg3_ => ?_)
 ·
  replace h := h.1 hg3_
  refine Ops_pass rfl rfl (Ops_pass rfl rfl (Ops_pass rfl rfl (Ops_pass rfl rfl (Ops_pass rfl rfl ?_))))
  refine Ops_pass rfl rfl (Ops_pass rfl rfl (Ops_pass rfl rfl (Ops_pass rfl rfl (Ops_step (R_pick_true rfl rfl) rfl rfl ?_))))
  refine Ops_step (R_move rfl) rfl rfl ?_
  refine Ops_call (C_func bd13 rfl) rfl rfl ?_
  refine (sealskinlaw13_awake_ok  hI.st (hg.up hI.le)  h).mono ?_
  rintro _ w4_ ⟨r4_0, L4_, H4_, rfl, hI4_, h⟩
  refine Exists.elim (hI.call hI4_ (by simp)) fun L40_ h4_ => ?_
  have hz4_ := hI.size
  replace hI := h4_.1
  have u4_ := h4_.2.1
  have hl4_ := h4_.2.2
  clear h4_
  clear hI4_ u4_ hl4_
  refine ⟨_, rfl, ?_⟩
  refine Ops_step (R_pick_true rfl rfl) rfl rfl (Ops_step (R_assign rfl) rfl rfl ?_)
  refine Ops_nil ?_
  refine then_n (k2 _ _ ?_)
  clear k2 K2
  refine W_keepB [6] fun B_ b_ => ?_
  simp only [e_, Nat.reduceAdd, Nat.reduceBEq] at b_
  subst b_
  refine W_ret ?_
  refine ⟨_, ⟨_, _, rfl, rfl, rfl⟩, ?_⟩
  exact ⟨r4_0, _, _, rfl, hI, h⟩
 ·
  replace h := h.2 hg3_
  refine Ops_step (R_move rfl) rfl rfl (Ops_step (R_move rfl) rfl rfl (Ops_step (R_move rfl) rfl rfl ?_))
  refine Ops_call (C_func bd27 rfl) rfl rfl ?_
  refine (frame_Key_ok (x0 := x0) (x1 := x1) (x2 := x2) hI.st (hg.up hI.le)  h).mono ?_
  rintro _ w6_ ⟨A6_0, c6_0, r6_0, L6_, H6_, rfl, hI6_, hc6_0, hs6_0, h⟩
  refine Exists.elim (hI.call hI6_ (by simp)) fun L60_ h6_ => ?_
  have hz6_ := hI.size
  replace hI := h6_.1
  have u6_ := h6_.2.1
  have hl6_ := h6_.2.2
  clear h6_
  replace hs6_0 := hs6_0.up hl6_
  clear hI6_ u6_ hl6_
  refine ⟨_, rfl, ?_⟩
  refine Ops_step (R_move rfl) rfl rfl (Ops_step (R_move rfl) rfl rfl (Ops_step (R_move rfl) rfl rfl ?_))
  refine Ops_call (C_func bd28 rfl) rfl rfl ?_
  refine (sealskinref13_Key_ok (x0 := x0) (x1 := x1) (x2 := x2) hI.st (hg.up hI.le)  h).mono ?_
  rintro _ w7_ ⟨A7_0, c7_0, r7_0, L7_, H7_, rfl, hI7_, hc7_0, hs7_0, h⟩
  refine Exists.elim (hI.call hI7_ (by simp)) fun L70_ h7_ => ?_
  have hz7_ := hI.size
  replace hI := h7_.1
  have u7_ := h7_.2.1
  have hl7_ := h7_.2.2
  clear h7_
  replace hs6_0 := hs6_0.up u7_.ll
  replace hs7_0 := hs7_0.up hl7_
  clear hI7_ u7_ hl7_
  refine ⟨_, rfl, ?_⟩
  refine Ops_call (C_func bd26 rfl) rfl rfl ?_
  refine (bytes_Equal_ok (x0 := r6_0) (x1 := r7_0) hI.st (hg.up hI.le) hc6_0 (hs6_0.up hI.sub) hc7_0 (hs7_0.up hI.sub) h).mono ?_
  rintro _ w8_ ⟨r8_0, L8_, H8_, rfl, hI8_, h⟩
  refine Exists.elim (hI.call hI8_ (by simp)) fun L80_ h8_ => ?_
  have hz8_ := hI.size
  replace hI := h8_.1
  have u8_ := h8_.2.1
  have hl8_ := h8_.2.2
  clear h8_
  clear hI8_ u8_ hl8_
  refine ⟨_, rfl, ?_⟩
  refine Ops_step (R_pick_false rfl rfl) rfl rfl (Ops_step (R_move rfl) rfl rfl ?_)
  refine Ops_splitB 21 rfl (fun hg9_ => ?_) (fun hg9_ => ?_)
  ·
   replace h := h.1 hg9_
   refine Ops_call (C_func bd13 rfl) rfl rfl ?_
   refine (sealskinlaw13_awake_ok  hI.st (hg.up hI.le)  h).mono ?_
   rintro _ w10_ ⟨r10_0, L10_, H10_, rfl, hI10_, h⟩
   refine Exists.elim (hI.call hI10_ (by simp)) fun L100_ h10_ => ?_
   have hz10_ := hI.size
   replace hI := h10_.1
   have u10_ := h10_.2.1
   have hl10_ := h10_.2.2
   clear h10_
   clear hI10_ u10_ hl10_
   refine ⟨_, rfl, ?_⟩
   refine Ops_step (R_pick_true rfl rfl) rfl rfl (Ops_step (R_assign rfl) rfl rfl ?_)
   refine Ops_nil ?_
   refine then_n (k2 _ _ ?_)
   clear k2 K2
   refine W_keepB [6] fun B_ b_ => ?_
   simp only [e_, Nat.reduceAdd, Nat.reduceBEq] at b_
   subst b_
   refine W_ret ?_
   refine ⟨_, ⟨_, _, rfl, rfl, rfl⟩, ?_⟩
   exact ⟨r10_0, _, _, rfl, hI, h⟩
  ·
   replace h := h.2 hg9_
   refine Ops_pass rfl rfl (Ops_step (R_pick_false rfl rfl) rfl rfl (Ops_step (R_assign rfl) rfl rfl ?_))
   refine Ops_nil ?_
   refine then_n (k2 _ _ ?_)
   clear k2 K2
   refine W_keepB [6] fun B_ b_ => ?_
   simp only [e_, Nat.reduceAdd, Nat.reduceBEq] at b_
   subst b_
   refine W_ret ?_
   refine ⟨_, ⟨_, _, rfl, rfl, rfl⟩, ?_⟩
   exact ⟨false, _, _, rfl, hI, h⟩

end Go.Proofs.YtbjmngacjdcddaaDoor

