/- What is shown of the program on the way to the law. -/
import Derived.Test.YtkmljjhjojolcaaZn3
import Derived.Test.YtkmljjhjojolcaaZn4
import Derived.Test.YtkmljjhjojolcaaZn5
import Derived.Test.YtkmljjhjojolcaaZn7
import Derived.Test.YtkmljjhjojolcaaZn8
import Derived.Test.YtkmljjhjojolcaaProg
set_option linter.unusedVariables false
set_option linter.unusedSimpArgs false
set_option maxHeartbeats 4000000
namespace Go.Proofs.Ytkmljjhjojolcaa
open Go Go.Sx Go.Lx
namespace TJtD
theorem hm : Try.prog.follows .mixedOrders = true := by kernel_rfl
theorem ag25 : aggB Try.prog 25 = some false := by kernel_rfl
theorem ag26 : aggB Try.prog 26 = some false := by kernel_rfl
theorem ag3 : aggB Try.prog 3 = some false := by kernel_rfl
theorem ag41 : aggB Try.prog 41 = some false := by kernel_rfl
theorem ag85 : aggB Try.prog 85 = some true := by kernel_rfl
theorem bd14 : bodied Try.prog 14 = true := by kernel_rfl
theorem bd26 : bodied Try.prog 26 = true := by kernel_rfl
theorem bd39 : bodied Try.prog 39 = true := by kernel_rfl
theorem bd40 : bodied Try.prog 40 = true := by kernel_rfl
theorem bd41 : bodied Try.prog 41 = true := by kernel_rfl
theorem bd42 : bodied Try.prog 42 = true := by kernel_rfl
theorem bd43 : bodied Try.prog 43 = true := by kernel_rfl
theorem bd44 : bodied Try.prog 44 = true := by kernel_rfl
theorem bd45 : bodied Try.prog 45 = true := by kernel_rfl
theorem el29 : Elem Try.prog 29 5 1 1 := Elem.of (by kernel_rfl)
theorem fo44_0 : offB Try.prog 44 0 = some 0 := by kernel_rfl
theorem fo46_0 : offB Try.prog 46 0 = some 0 := by kernel_rfl
theorem fo46_1 : offB Try.prog 46 1 = some 2 := by kernel_rfl
theorem fo46_2 : offB Try.prog 46 2 = some 3 := by kernel_rfl
theorem fo46_3 : offB Try.prog 46 3 = some 4 := by kernel_rfl
theorem pl44 : partPl Try.prog 44 = some [(0, 1), (1, 1)] := by kernel_rfl
theorem pl46 : partPl Try.prog 46 = some [(0, 2), (2, 1), (3, 1), (4, 1)] := by kernel_rfl
theorem sz26 : sz Try.prog 26 = some 1 := by kernel_rfl
theorem sz3 : sz Try.prog 3 = some 1 := by kernel_rfl
theorem sz41 : sz Try.prog 41 = some 1 := by kernel_rfl
theorem sz85 : sz Try.prog 85 = some 2 := by kernel_rfl
theorem zr26 : zr Try.prog 26 = some ([.pointer none]) := by kernel_rfl
theorem zr41 : zr Try.prog 41 = some ([.slice none 0 0]) := by kernel_rfl
theorem zr44 : zr Try.prog 44 = some ([.slice none 0 0] ++ [.map none]) := by kernel_rfl
theorem zr46 : zr Try.prog 46 = some ([.slice none 0 0] ++ [.map none] ++ [.pointer none] ++ [.int .i64 0] ++ [.int .i64 0]) := by kernel_rfl
theorem zr85 : zr Try.prog 85 = some ([.int .i64 0] ++ [.slice none 0 0]) := by kernel_rfl
end TJtD
open TJtD
theorem journal_Journal_Check_ok {G : Gh} {w : World} (hS : St G w) (hg : GL G) {d0 : Nat} {z0 : journal_Journal} {Ad0_1 : Option Addr} {cd0_1 : Nat} {d1 : Nat} {z1 : List (Int × Int)} (htd1 : MTok G G w d1 z1) {d2 : Nat} {z2 : disk_Disk} {Ad2_1 : Option Addr} {cd2_1 : Nat} {Ad2_2 : Option Addr} {cd2_2 : Nat} {Ad2_3 : Option Addr} {cd2_3 : Nat} (htd2 : Tok G w d2 53 ([.slice Ad2_1 z2.files_.e0_.length cd2_1, .slice Ad2_2 z2.files_.e1_.length cd2_2, .slice Ad2_3 z2.files_.e2_.length cd2_3, vi z2.room_, .bool z2.off_, .bool z2.armed_, vi z2.left_])) (hcd2_1 : z2.files_.e0_.length ≤ cd2_1) (hsd2_1 : Sl G Ad2_1 z2.files_.e0_) (hcd2_2 : z2.files_.e1_.length ≤ cd2_2) (hsd2_2 : Sl G Ad2_2 z2.files_.e1_) (hcd2_3 : z2.files_.e2_.length ≤ cd2_3) (hsd2_3 : Sl G Ad2_3 z2.files_.e2_) (htd0 : Tok G w d0 46 ([.slice Ad0_1 z0.book_.l_.length cd0_1, .map (some d1), .pointer (some ⟨d2, 0, none⟩), vi z0.gen_, vi z0.place_])) (hcd0_1 : z0.book_.l_.length ≤ cd0_1) (hsd0_1 : Sl G Ad0_1 z0.book_.l_) {Q : Int → journal_Journal → disk_Disk → Prop} (h : journal_Journal_Check z0 z1 z2 Q) : Calls Try.prog 14 #[.pointer (some ⟨d0, 0, none⟩)] w fun e w2 => ∃ (r0 : Int) (y0 : journal_Journal) (Ay0_1 : Option Addr) (cy0_1 : Nat) (y2 : disk_Disk) (Ay2_1 : Option Addr) (cy2_1 : Nat) (Ay2_2 : Option Addr) (cy2_2 : Nat) (Ay2_3 : Option Addr) (cy2_3 : Nat) (L H : Gh), e = .returned (vi r0) ∧ Inv [d0, d2] G w L H w2 ∧ Tok H w2 d0 46 ([.slice Ay0_1 y0.book_.l_.length cy0_1, .map (some d1), .pointer (some ⟨d2, 0, none⟩), vi y0.gen_, vi y0.place_]) ∧ y0.book_.l_.length ≤ cy0_1 ∧ Sl H Ay0_1 y0.book_.l_ ∧ Tok H w2 d2 53 ([.slice Ay2_1 y2.files_.e0_.length cy2_1, .slice Ay2_2 y2.files_.e1_.length cy2_2, .slice Ay2_3 y2.files_.e2_.length cy2_3, vi y2.room_, .bool y2.off_, .bool y2.armed_, vi y2.left_]) ∧ y2.files_.e0_.length ≤ cy2_1 ∧ Sl H Ay2_1 y2.files_.e0_ ∧ y2.files_.e1_.length ≤ cy2_2 ∧ Sl H Ay2_2 y2.files_.e1_ ∧ y2.files_.e2_.length ≤ cy2_3 ∧ Sl H Ay2_3 y2.files_.e2_ ∧ Q r0 y0 y2 := by
 unfold journal_Journal_Check at h
 have hI := Inv.start (M := [d0, d2]) hS
 refine calls_W 103 Try.func14 rfl Try.ntmps14 rfl [.tmp 2] rfl ?_
 have hlt_d0 := htd0.blk.lt
 have hlt_d1 := htd1.lt
 have hlt_d2 := htd2.blk.lt
 refine W_seq_k fun K1 k1 => ?_
 refine W_region [2] rfl (Ops_step (R_assign rfl) rfl rfl ?_)
 refine Ops_nil ?_
 refine then_n (k1 _ _ ?_)
 clear k1 K1
 refine W_seq_k fun K2 k2 => ?_
 refine W_block ?_
 refine W_seq_k fun K3 k3 => ?_
 refine W_region [12, 13, 11] rfl (Ops_step (R_move rfl) rfl rfl ?_)
 refine Ops_call (C_func bd39 rfl) rfl rfl ?_
 refine (journal_Journal_dead_ok (z0 := z0) (z1 := z1) (z2 := z2) hI.st (hg.up hI.le) htd1 htd2 hcd2_1 hsd2_1 hcd2_2 hsd2_2 hcd2_3 hsd2_3 htd0 hcd0_1 hsd0_1 h).mono ?_
 rintro _ w4_ ⟨r4_0, L4_, H4_, rfl, hI4_, h⟩
 refine Exists.elim (hI.call hI4_ (by simp)) fun L40_ h4_ => ?_
 have hz4_ := hI.size
 replace hI := h4_.1
 have u4_ := h4_.2.1
 have hl4_ := h4_.2.2
 clear h4_
 replace hsd0_1 := hsd0_1.up u4_.hh
 replace htd1 := htd1.up u4_.hh u4_ (by simp)
 replace hsd2_1 := hsd2_1.up u4_.hh
 replace hsd2_2 := hsd2_2.up u4_.hh
 replace hsd2_3 := hsd2_3.up u4_.hh
 replace htd2 := htd2.up u4_ (by simp)
 replace htd0 := htd0.up u4_ (by simp)
 clear hI4_ u4_ hl4_
 refine ⟨_, rfl, ?_⟩
 refine Ops_step (R_assign rfl) rfl rfl ?_
 refine Ops_nil ?_
 refine then_n (k3 _ _ ?_)
 clear k3 K3
 refine W_cond rfl (fun hc5_ => ?_) (fun hc5_ => ?_)
 ·
  replace h := h.1 hc5_
  refine W_seq_k fun K6 k6 => ?_
  refine W_region [2] rfl (Ops_step (R_assign rfl) rfl rfl ?_)
  refine Ops_nil ?_
  refine then_n (k6 _ _ ?_)
  clear k6 K6
  refine W_ret ?_
  refine block_ret ?_
  refine then_ret ?_
  clear k2 K2
  refine ⟨_, ⟨_, _, rfl, rfl, rfl⟩, ?_⟩
  exact ⟨6, z0, Ad0_1, cd0_1, z2, Ad2_1, cd2_1, Ad2_2, cd2_2, Ad2_3, cd2_3, _, _, rfl, hI, htd0, hcd0_1, hsd0_1, htd2, hcd2_1, hsd2_1, hcd2_2, hsd2_2, hcd2_3, hsd2_3, h⟩
 ·
  replace h := h.2 hc5_
  refine W_seq_k fun K7 k7 => ?_
  refine W_region [15, 16, 17, 18, 19, 14] rfl (Ops_step (R_move rfl) rfl rfl (Ops_step (R_nilCheck rfl) rfl rfl (Ops_step (R_fieldAddr fo46_2 rfl) rfl rfl ?_)))
  refine Ops_step (R_loadB (v := vi z0.gen_) ag3 rfl htd0.blk rfl) rfl rfl ?_
  refine Ops_step (R_geq rfl rfl) rfl rfl (Ops_step (R_assign rfl) rfl rfl ?_)
  refine Ops_nil ?_
  refine then_n (k7 _ _ ?_)
  clear k7 K7
  refine W_keepB [0, 14] fun B_ b_ => ?_
  simp only [e_, Nat.reduceAdd, Nat.reduceBEq] at b_
  subst b_
  refine W_if rfl (fun hc9_ => ?_) (fun hc9_ => ?_)
  ·
   replace h := h.1 hc9_
   refine W_seq_k fun K10 k10 => ?_
   refine W_region [2] rfl (Ops_step (R_assign rfl) rfl rfl ?_)
   refine Ops_nil ?_
   refine then_n (k10 _ _ ?_)
   clear k10 K10
   refine W_ret ?_
   refine block_ret ?_
   refine then_ret ?_
   clear k2 K2
   refine ⟨_, ⟨_, _, rfl, rfl, rfl⟩, ?_⟩
   exact ⟨5, z0, Ad0_1, cd0_1, z2, Ad2_1, cd2_1, Ad2_2, cd2_2, Ad2_3, cd2_3, _, _, rfl, hI, htd0, hcd0_1, hsd0_1, htd2, hcd2_1, hsd2_1, hcd2_2, hsd2_2, hcd2_3, hsd2_3, h⟩
  ·
   replace h := h.2 hc9_
   refine W_skip ?_
   refine block_n ?_
   refine then_n (k2 _ _ ?_)
   clear k2 K2
   refine W_seq_k fun K11 k11 => ?_
   refine W_region [20, 21, 22, 23, 24, 3, 4] rfl (Ops_step (R_move rfl) rfl rfl (Ops_step (R_nilCheck rfl) rfl rfl (Ops_step (R_fieldAddr fo46_2 rfl) rfl rfl ?_)))
   refine Ops_step (R_loadB (v := vi z0.gen_) ag3 rfl htd0.blk rfl) rfl rfl ?_
   have hk12_ := h.1
   replace h := h.2
   refine Ops_step (R_add rfl rfl (wI hk12_.1 hk12_.2)) rfl rfl (Ops_step (R_assign rfl) rfl rfl (Ops_step (R_assign rfl) rfl rfl ?_))
   refine Ops_nil ?_
   refine then_n (k11 _ _ ?_)
   clear k11 K11
   refine W_keepB [0, 3, 4] fun B_ b_ => ?_
   simp only [e_, Nat.reduceAdd, Nat.reduceBEq] at b_
   subst b_
   refine ex_ h fun J14_ hr14_ h => ?_
   refine W_seq_join [0, 3] [4] (fun vals_ w2 => ∃ (x4_14 : Int) (L H : Gh), vals_ = [vi x4_14] ∧ J14_ x4_14 ∧ Inv [d0, d2] G w L H w2 ∧ Le L40_ L ∧ Le H4_ H ∧ MTok H H w2 d1 z1 ∧ Tok H w2 d2 53 ([.slice Ad2_1 z2.files_.e0_.length cd2_1, .slice Ad2_2 z2.files_.e1_.length cd2_2, .slice Ad2_3 z2.files_.e2_.length cd2_3, vi z2.room_, .bool z2.off_, .bool z2.armed_, vi z2.left_]) ∧ Tok H w2 d0 46 ([.slice Ad0_1 z0.book_.l_.length cd0_1, .map (some d1), .pointer (some ⟨d2, 0, none⟩), vi z0.gen_, vi z0.place_]) ∧ True) (fun B_ b_ => ?_) (fun B_ b_ => ?_)
   ·
    simp only [e_, Nat.reduceAdd, Nat.reduceBEq] at b_
    subst b_
    clear hr14_
    have hll14_ := Le.refl L40_
    have hhh14_ := Le.refl H4_
    refine W_seq_k fun K15 k15 => ?_
    refine W_region [25, 26, 27, 28, 29] rfl (Ops_step (R_move rfl) rfl rfl (Ops_step (R_nilCheck rfl) rfl rfl (Ops_step (R_fieldAddr fo46_3 rfl) rfl rfl ?_)))
    refine Ops_step (R_loadB (v := vi z0.place_) ag3 rfl htd0.blk rfl) rfl rfl ?_
    refine Ops_step (R_eql rfl rfl) rfl rfl ?_
    refine Ops_nil ?_
    refine then_n (k15 _ _ ?_)
    clear k15 K15
    refine W_if rfl (fun hc16_ => ?_) (fun hc16_ => ?_)
    ·
     replace h := h.1 hc16_
     refine W_region [4] rfl (Ops_step (R_assign rfl) rfl rfl ?_)
     refine Ops_nil ?_
     refine then_n ?_
     exact ⟨_, rfl, ⟨2, _, _, rfl, h, hI, hll14_, hhh14_, htd1, htd2, htd0, trivial⟩, ⟨rfl, rfl, trivial⟩⟩
    ·
     replace h := h.2 hc16_
     refine W_skip ?_
     refine then_n ?_
     exact ⟨_, rfl, ⟨1, _, _, rfl, h, hI, hll14_, hhh14_, htd1, htd2, htd0, trivial⟩, ⟨rfl, rfl, trivial⟩⟩
   ·
    simp only [e_, Nat.reduceAdd, Nat.reduceBEq] at b_
    subst b_
    clear h
    clear htd0
    clear htd1
    clear htd2
    rintro _ w14_ ⟨x4_14, L14_, H14_, rfl, hJ14_, hI14_, hll14_, hhh14_, htd1, htd2, htd0, -⟩
    replace hI := hI14_
    clear hI14_
    have h := hr14_ x4_14 hJ14_
    clear hr14_ hJ14_
    replace hsd0_1 := hsd0_1.up hhh14_
    replace hsd2_1 := hsd2_1.up hhh14_
    replace hsd2_2 := hsd2_2.up hhh14_
    replace hsd2_3 := hsd2_3.up hhh14_
    refine W_seq_k fun K17 k17 => ?_
    refine W_region [30, 31, 32, 33, 34, 35, 36, 37, 5] rfl (Ops_step (R_move rfl) rfl rfl (Ops_step (R_move rfl) rfl rfl (Ops_step (R_nilCheck rfl) rfl rfl (Ops_step (R_fieldAddr fo46_0 rfl) rfl rfl ?_))))
    refine Ops_step (R_fieldAddr fo44_0 rfl) rfl rfl ?_
    refine Ops_step (R_loadB (v := .slice Ad0_1 z0.book_.l_.length cd0_1) ag41 rfl htd0.blk rfl) rfl rfl ?_
    refine Ops_step (R_len Try.underlying41 rfl rfl) rfl rfl ?_
    refine Ops_call (C_func bd40 rfl) rfl rfl ?_
    refine (journal_head_ok (x0 := (z0.gen_ + 1)) (x1 := (z0.book_.l_.length : Int)) hI.st (hg.up hI.le)  h).mono ?_
    rintro _ w18_ ⟨A18_0, c18_0, r18_0, L18_, H18_, rfl, hI18_, ho18_0, h⟩
    refine Exists.elim (hI.call hI18_ (by simp)) fun L180_ h18_ => ?_
    have hz18_ := hI.size
    replace hI := h18_.1
    have u18_ := h18_.2.1
    have hl18_ := h18_.2.2
    clear h18_
    replace hsd0_1 := hsd0_1.up u18_.hh
    replace hsd2_1 := hsd2_1.up u18_.hh
    replace hsd2_2 := hsd2_2.up u18_.hh
    replace hsd2_3 := hsd2_3.up u18_.hh
    replace htd1 := htd1.up u18_.hh u18_ (by simp)
    replace htd2 := htd2.up u18_ (by simp)
    replace htd0 := htd0.up u18_ (by simp)
    replace ho18_0 := OwnS.backS ho18_0 hz18_ (Le.refl _)
    clear hI18_ u18_ hl18_
    refine ⟨_, rfl, ?_⟩
    refine Ops_step (R_assign rfl) rfl rfl ?_
    refine Ops_nil ?_
    refine then_n (k17 _ _ ?_)
    clear k17 K17
    refine W_keepB [0, 3, 4, 5] fun B_ b_ => ?_
    simp only [e_, Nat.reduceAdd, Nat.reduceBEq] at b_
    subst b_
    refine ex_ h fun J20_ hr20_ h => ?_
    refine W_seq_join [0, 3, 4] [5] (fun vals_ w2 => ∃ (x5_20 : List UInt8) (A5_20 : Option Addr) (c5_20 : Nat) (L H : Gh), vals_ = [.slice A5_20 x5_20.length c5_20] ∧ J20_ x5_20 ∧ Inv [d0, d2] G w L H w2 ∧ Le L180_ L ∧ Le H18_ H ∧ OwnS w.heap.size 5 Gh.no H w2 A5_20 c5_20 x5_20 ∧ MTok H H w2 d1 z1 ∧ Tok H w2 d2 53 ([.slice Ad2_1 z2.files_.e0_.length cd2_1, .slice Ad2_2 z2.files_.e1_.length cd2_2, .slice Ad2_3 z2.files_.e2_.length cd2_3, vi z2.room_, .bool z2.off_, .bool z2.armed_, vi z2.left_]) ∧ Tok H w2 d0 46 ([.slice Ad0_1 z0.book_.l_.length cd0_1, .map (some d1), .pointer (some ⟨d2, 0, none⟩), vi z0.gen_, vi z0.place_]) ∧ True) (fun B_ b_ => ?_) (fun B_ b_ => ?_)
    ·
     simp only [e_, Nat.reduceAdd, Nat.reduceBEq] at b_
     subst b_
     clear hr20_
     have hll20_ := Le.refl L180_
     have hhh20_ := Le.refl H18_
     refine W_seq_k fun K21 k21 => ?_
     refine W_region [38, 39, 40, 41, 42, 43, 44] rfl (Ops_step (R_move rfl) rfl rfl (Ops_step (R_nilCheck rfl) rfl rfl (Ops_step (R_fieldAddr fo46_0 rfl) rfl rfl (Ops_step (R_fieldAddr fo44_0 rfl) rfl rfl ?_))))
     refine Ops_step (R_loadB (v := .slice Ad0_1 z0.book_.l_.length cd0_1) ag41 rfl htd0.blk rfl) rfl rfl ?_
     refine Ops_step (R_len Try.underlying41 rfl rfl) rfl rfl (Ops_step (R_move rfl) rfl rfl ?_)
     refine Ops_nil ?_
     refine then_n (k21 _ _ ?_)
     clear k21 K21
     refine W_block ?_
     refine Exists.elim h fun I22_ h => Exists.elim h fun n22_ h => ?_
     have h0_ := h.1
     have hs22_ := h.2
     clear h
     refine W_loopB [0, 3, 4, 42, 43] [5, 44] (fun m vals_ w2 => ∃ (x5_22 : List UInt8) (A5_22 : Option Addr) (c5_22 : Nat) (x44_22 : Int) (L H : Gh), vals_ = [.slice A5_22 x5_22.length c5_22, vi x44_22] ∧ I22_ m x5_22 x44_22 ∧ Inv [d0, d2] G w L H w2 ∧ Le L180_ L ∧ Le H18_ H ∧ OwnS w.heap.size 5 Gh.no H w2 A5_22 c5_22 x5_22 ∧ MTok H H w2 d1 z1 ∧ Tok H w2 d2 53 ([.slice Ad2_1 z2.files_.e0_.length cd2_1, .slice Ad2_2 z2.files_.e1_.length cd2_2, .slice Ad2_3 z2.files_.e2_.length cd2_3, vi z2.room_, .bool z2.off_, .bool z2.armed_, vi z2.left_]) ∧ Tok H w2 d0 46 ([.slice Ad0_1 z0.book_.l_.length cd0_1, .map (some d1), .pointer (some ⟨d2, 0, none⟩), vi z0.gen_, vi z0.place_]) ∧ True) n22_ _ rfl ⟨r18_0, A18_0, c18_0, 0, _, _, rfl, h0_, hI, Le.refl _, Le.refl _, ho18_0, htd1, htd2, htd0, trivial⟩ fun B_ b_ => ?_
     clear h0_
     simp only [e_, Nat.reduceAdd, Nat.reduceBEq] at b_
     subst b_
     clear htd0
     clear htd1
     clear htd2
     rintro m22_ _ w22_ ⟨x5_22, A5_22, c5_22, x44_22, L22_, H22_, rfl, hJ22_, hI22_, hll22_, hhh22_, ho5_22, htd1, htd2, htd0, -⟩
     replace hI := hI22_
     clear hI22_
     have h := hs22_ m22_ x5_22 x44_22 hJ22_
     clear hs22_ hJ22_
     replace hsd0_1 := hsd0_1.up hhh22_
     replace hsd2_1 := hsd2_1.up hhh22_
     replace hsd2_2 := hsd2_2.up hhh22_
     replace hsd2_3 := hsd2_3.up hhh22_
     replace hll20_ := hll20_.trans hll22_
     replace hhh20_ := hhh20_.trans hhh22_
     refine W_seq_k fun K23 k23 => ?_
     refine W_region [45] rfl (Ops_step (R_lss rfl rfl) rfl rfl ?_)
     refine Ops_nil ?_
     refine then_n (k23 _ _ ?_)
     clear k23 K23
     refine W_seq_k fun K24 k24 => ?_
     refine W_if rfl (fun hc25_ => ?_) (fun hc25_ => ?_)
     ·
      replace h := h.1 hc25_
      refine W_skip ?_
      refine then_n (k24 _ _ ?_)
      clear k24 K24
      refine W_seq_k fun K26 k26 => ?_
      refine W_block ?_
      refine W_seq_k fun K27 k27 => ?_
      refine W_region [46, 47, 48, 7, 6, none] rfl (Ops_step (R_move rfl) rfl rfl ?_)
      refine ex_ h fun x28_ hx28_ h => ?_
      have ha28_ := (Sl.atN (n := 2) rfl (by decide) hsd0_1 hx28_).1
      refine Exists.elim (Sl.atN (n := 2) rfl (by decide) hsd0_1 hx28_).2 fun l28_ hA28_ => ?_
      have hr28_ := hA28_.1
      have hg28_ := hA28_.2
      clear hA28_
      refine Ops_step (R_indexSl Try.underlying41 sz85 rfl rfl hx28_.1 hx28_.lt ha28_) rfl rfl ?_
      obtain ⟨A28_1, c28_1, rfl, ⟨hc28_1, hs28_1⟩⟩ := hr28_
      refine Ops_step (R_loadCs (cs := [vi x28_.label_, .slice A28_1 x28_.data_.length c28_1]) ag85 sz85 rfl (fun j_ v_ hv_ => hI.st _ _ (hg28_ j_ v_ hv_))) rfl rfl ?_
      have hI0_ := hI
      refine Ops_to (R_alloc zr85) rfl rfl ?_
      rintro _ w29_ ⟨b29_, rfl, hb29_, hB29_, hF29_⟩
      replace hI := hI.fr0 hF29_
      replace htd1 := htd1.fr0 hF29_
      replace htd2 := htd2.fr0 hF29_
      replace htd0 := htd0.fr0 hF29_
      replace ho5_22 := ho5_22.fr0 hF29_
      have ht29_ : Tok H22_ _ b29_ 85 ([vi 0, .slice none 0 0]) := ⟨hB29_.to rfl, Out.ge hI0_.st (Nat.le_of_eq hb29_.symm)⟩
      have hge_b29_ : w.heap.size ≤ b29_ := hb29_ ▸ hI0_.size
      clear hB29_ hb29_ hI0_ hF29_
      refine Ops_step (R_assign rfl) rfl rfl ?_
      refine Ops_to0 (R_storeN sz85 rfl rfl rfl ht29_.blk (Nat.le_of_ble_eq_true rfl) rfl) rfl ?_
      rintro _ w30_ ⟨hB30_, hF30_⟩
      replace hI := hI.tok hF30_ (out1 ht29_.out) (new1 hge_b29_)
      replace htd1 := htd1.fr hF30_ (htd1.neT ht29_)
      replace htd2 := htd2.fr hF30_ (htd2.apart ht29_ (by decide))
      replace htd0 := htd0.fr hF30_ (htd0.apart ht29_ (by decide))
      replace ho5_22 := ho5_22.fr hF30_ (ho5_22.ne ht29_.blk (by decide))
      replace ht29_ : Tok H22_ _ b29_ 85 ([vi x28_.label_, .slice A28_1 x28_.data_.length c28_1]) := ⟨hB30_, ht29_.out⟩
      clear hF30_ hB30_
      refine Ops_nil ?_
      refine then_n (k27 _ _ ?_)
      clear k27 K27
      refine W_region [49, 50, 51, 52, 53, 5] rfl (Ops_step (R_move rfl) rfl rfl (Ops_step (R_move rfl) rfl rfl (Ops_step (R_loadN ag85 sz85 rfl ht29_.blk (Nat.le_of_ble_eq_true rfl)) rfl rfl ?_)))
      refine Ops_call (C_func bd41 rfl) rfl rfl ?_
      refine (journal_tell_ok (x0 := x44_22) (x1 := x28_) hI.st (hg.up hI.le) ⟨A28_1, c28_1, rfl, ⟨hc28_1, hs28_1⟩⟩ h).mono ?_
      have hlo31_0_ho5_22 := ho5_22.lt
      rintro _ w31_ ⟨A31_0, c31_0, r31_0, L31_, H31_, rfl, hI31_, ho31_0, h⟩
      refine Exists.elim (hI.call hI31_ (by simp)) fun L310_ h31_ => ?_
      have hz31_ := hI.size
      replace hI := h31_.1
      have u31_ := h31_.2.1
      have hl31_ := h31_.2.2
      clear h31_
      replace hsd0_1 := hsd0_1.up u31_.hh
      replace hsd2_1 := hsd2_1.up u31_.hh
      replace hsd2_2 := hsd2_2.up u31_.hh
      replace hsd2_3 := hsd2_3.up u31_.hh
      replace hll20_ := hll20_.trans u31_.ll
      replace hhh20_ := hhh20_.trans u31_.hh
      replace htd1 := htd1.up u31_.hh u31_ (by simp)
      replace htd2 := htd2.up u31_ (by simp)
      replace htd0 := htd0.up u31_ (by simp)
      replace ho5_22 := ho5_22.up (Le.refl _) u31_ (by simp)
      replace hll22_ := hll22_.trans u31_.ll
      replace hhh22_ := hhh22_.trans u31_.hh
      have hsp31_0_ho5_22 : ∀ i ∈ bk A31_0 c31_0, i ∉ bk A5_22 c5_22 := sep_new ho31_0.off hlo31_0_ho5_22
      replace ho31_0 := OwnS.backS ho31_0 hz31_ (Le.refl _)
      clear hI31_ u31_ hl31_
      refine ⟨_, rfl, ?_⟩
      refine Exists.elim (ho31_0.freeze hI) fun L32_ h32_ => Exists.elim h32_ fun H32_ h32_ => ?_
      replace hI := h32_.1
      have u32_ := h32_.2.1
      have hs32_ := h32_.2.2.1 (Le.no _)
      have hc32_ := ho31_0.cap
      replace hsd0_1 := hsd0_1.up u32_.hh
      replace hsd2_1 := hsd2_1.up u32_.hh
      replace hsd2_2 := hsd2_2.up u32_.hh
      replace hsd2_3 := hsd2_3.up u32_.hh
      replace hll20_ := hll20_.trans u32_.ll
      replace hhh20_ := hhh20_.trans u32_.hh
      replace htd1 := htd1.up u32_.hh u32_ (ho31_0.old hlt_d1)
      replace htd2 := htd2.up u32_ (ho31_0.old hlt_d2)
      replace htd0 := htd0.up u32_ (ho31_0.old hlt_d0)
      replace ho5_22 := ho5_22.up (Le.refl _) u32_ (sep_sym hsp31_0_ho5_22)
      replace hll22_ := hll22_.trans u32_.ll
      replace hhh22_ := hhh22_.trans u32_.hh
      clear h32_ u32_ ho31_0
      have hk34_ := h.1
      replace h := h.2
      refine Ops_to (X_append (α := UInt8) (xs := x5_22) (ys := r31_0) el29 rfl rfl ho5_22 (Srcs.sc (Srcs.ofSl Try.underlying29 (hs32_.up hI.sub) hI.st (by decide))) hI.st hk34_ (by decide) hI.size) rfl rfl ?_
      rintro _ w33_ ⟨A33_, c33_, rfl, ho33_, hF33_, hbk33_⟩
      clear hbk33_
      replace hI := hI.tok hF33_ ho5_22.out (ho5_22.new (Nat.le_refl _))
      replace htd1 := htd1.fr hF33_ (ho5_22.old hlt_d1)
      replace htd2 := htd2.fr hF33_ (ho5_22.old hlt_d2)
      replace htd0 := htd0.fr hF33_ (ho5_22.old hlt_d0)
      clear hF33_ ho5_22
      refine Ops_step (R_assign rfl) rfl rfl ?_
      refine Ops_nil ?_
      refine block_n ?_
      refine then_n (k26 _ _ ?_)
      clear k26 K26
      refine W_keepB [0, 3, 4, 5, 42, 43, 44] fun B_ b_ => ?_
      simp only [e_, Nat.reduceAdd, Nat.reduceBEq] at b_
      subst b_
      refine W_region [54, 44] rfl ?_
      have hk36_ := h.1
      replace h := h.2
      refine Ops_step (R_add rfl rfl (wI hk36_.1 hk36_.2)) rfl rfl (Ops_step (R_move rfl) rfl rfl ?_)
      refine Ops_nil ?_
      refine then_n ?_
      exact h.elim fun m_ h => ⟨m_, _, h.1, rfl, ⟨(x5_22 ++ r31_0), A33_, c33_, (x44_22 + 1), _, _, rfl, h.2, hI, hll22_, hhh22_, ho33_, htd1, htd2, htd0, trivial⟩, ⟨rfl, rfl, rfl, rfl, rfl, trivial⟩⟩
     ·
      replace h := h.2 hc25_
      refine W_exit ?_
      refine then_exit ?_
      clear k24 K24
      refine then_exit ?_
      refine block_exit ?_
      refine then_n ?_
      exact ⟨_, rfl, ⟨x5_22, A5_22, c5_22, _, _, rfl, h, hI, hll20_, hhh20_, ho5_22, htd1, htd2, htd0, trivial⟩, ⟨rfl, rfl, rfl, trivial⟩⟩
    ·
     simp only [e_, Nat.reduceAdd, Nat.reduceBEq] at b_
     subst b_
     clear h
     clear htd0
     clear htd1
     clear htd2
     rintro _ w20_ ⟨x5_20, A5_20, c5_20, L20_, H20_, rfl, hJ20_, hI20_, hll20_, hhh20_, ho5_20, htd1, htd2, htd0, -⟩
     replace hI := hI20_
     clear hI20_
     have h := hr20_ x5_20 hJ20_
     clear hr20_ hJ20_
     replace hsd0_1 := hsd0_1.up hhh20_
     replace hsd2_1 := hsd2_1.up hhh20_
     replace hsd2_2 := hsd2_2.up hhh20_
     replace hsd2_3 := hsd2_3.up hhh20_
     refine W_seq_k fun K37 k37 => ?_
     refine W_seq_k fun K38 k38 => ?_
     refine W_region [55, 56, 57, 58, 59, 60, 8] rfl (Ops_step (R_move rfl) rfl rfl (Ops_step (R_nilCheck rfl) rfl rfl (Ops_step (R_fieldAddr fo46_1 rfl) rfl rfl ?_)))
     refine Ops_step (R_loadB (v := .pointer (some ⟨d2, 0, none⟩)) ag25 rfl htd0.blk rfl) rfl rfl ?_
     refine Ops_step (R_move rfl) rfl rfl ?_
     refine Ops_call (C_func bd42 rfl) rfl rfl ?_
     refine (disk_Disk_Wipe_ok (x1 := x4_14) (z0 := z2) hI.st (hg.up hI.le) htd2 hcd2_1 hsd2_1 hcd2_2 hsd2_2 hcd2_3 hsd2_3 h).mono ?_
     rintro _ w39_ ⟨r39_0, y39_o0, A39_o0_1, c39_o0_1, A39_o0_2, c39_o0_2, A39_o0_3, c39_o0_3, L39_, H39_, rfl, hI39_, ht39_o0, hc39_o0_1, hs39_o0_1, hc39_o0_2, hs39_o0_2, hc39_o0_3, hs39_o0_3, h⟩
     refine Exists.elim (hI.call hI39_ (mem1 (by simp))) fun L390_ h39_ => ?_
     have hz39_ := hI.size
     replace hI := h39_.1
     have u39_ := h39_.2.1
     have hl39_ := h39_.2.2
     clear h39_
     replace hsd0_1 := hsd0_1.up u39_.hh
     replace hsd2_1 := hsd2_1.up u39_.hh
     replace hsd2_2 := hsd2_2.up u39_.hh
     replace hsd2_3 := hsd2_3.up u39_.hh
     replace htd1 := htd1.up u39_.hh u39_ (htd1.neT htd2)
     replace htd0 := htd0.up u39_ (htd0.apart htd2 (by decide))
     replace ho5_20 := ho5_20.up (Le.refl _) u39_ (ho5_20.oldt hlt_d2)
     clear htd2
     clear hI39_ u39_ hl39_
     refine ⟨_, rfl, ?_⟩
     refine Ops_step (R_assign rfl) rfl rfl ?_
     refine Ops_nil ?_
     refine then_n (k38 _ _ ?_)
     clear k38 K38
     refine W_keepB [0, 3, 4, 5, 8] fun B_ b_ => ?_
     simp only [e_, Nat.reduceAdd, Nat.reduceBEq] at b_
     subst b_
     refine W_seq_k fun K41 k41 => ?_
     refine W_region [61, 62] rfl (Ops_step (R_move rfl) rfl rfl (Ops_step (R_neq rfl rfl) rfl rfl ?_))
     refine Ops_nil ?_
     refine then_n (k41 _ _ ?_)
     clear k41 K41
     refine W_if rfl (fun hc42_ => ?_) (fun hc42_ => ?_)
     ·
      replace h := h.1 hc42_
      refine W_seq_k fun K43 k43 => ?_
      refine W_region [63, 2] rfl (Ops_step (R_move rfl) rfl rfl (Ops_step (R_assign rfl) rfl rfl ?_))
      refine Ops_nil ?_
      refine then_n (k43 _ _ ?_)
      clear k43 K43
      refine W_keepB [2] fun B_ b_ => ?_
      simp only [e_, Nat.reduceAdd, Nat.reduceBEq] at b_
      subst b_
      refine W_ret ?_
      refine then_ret ?_
      clear k37 K37
      refine ⟨_, ⟨_, _, rfl, rfl, rfl⟩, ?_⟩
      exact ⟨r39_0, z0, Ad0_1, cd0_1, y39_o0, A39_o0_1, c39_o0_1, A39_o0_2, c39_o0_2, A39_o0_3, c39_o0_3, _, _, rfl, hI, htd0, hcd0_1, hsd0_1, ht39_o0, hc39_o0_1, hs39_o0_1, hc39_o0_2, hs39_o0_2, hc39_o0_3, hs39_o0_3, h⟩
     ·
      replace h := h.2 hc42_
      refine W_skip ?_
      refine then_n (k37 _ _ ?_)
      clear k37 K37
      refine W_seq_k fun K45 k45 => ?_
      refine W_seq_k fun K46 k46 => ?_
      refine W_region [64, 65, 66, 67, 68, 69, 70, 9] rfl (Ops_step (R_move rfl) rfl rfl (Ops_step (R_nilCheck rfl) rfl rfl (Ops_step (R_fieldAddr fo46_1 rfl) rfl rfl ?_)))
      refine Ops_step (R_loadB (v := .pointer (some ⟨d2, 0, none⟩)) ag25 rfl htd0.blk rfl) rfl rfl ?_
      refine Ops_step (R_move rfl) rfl rfl (Ops_step (R_move rfl) rfl rfl ?_)
      refine Exists.elim (ho5_20.freeze hI) fun L48_ h48_ => Exists.elim h48_ fun H48_ h48_ => ?_
      replace hI := h48_.1
      have u48_ := h48_.2.1
      have hs48_ := h48_.2.2.1 (Le.no _)
      have hc48_ := ho5_20.cap
      replace hsd0_1 := hsd0_1.up u48_.hh
      replace htd1 := htd1.up u48_.hh u48_ (ho5_20.old hlt_d1)
      replace htd0 := htd0.up u48_ (ho5_20.old hlt_d0)
      replace ht39_o0 := ht39_o0.up u48_ (ho5_20.old hlt_d2)
      replace hs39_o0_1 := hs39_o0_1.up u48_.hh
      replace hs39_o0_2 := hs39_o0_2.up u48_.hh
      replace hs39_o0_3 := hs39_o0_3.up u48_.hh
      clear h48_ u48_ ho5_20
      refine Ops_call (C_func bd26 rfl) rfl rfl ?_
      refine (disk_Disk_Append_ok (x1 := x4_14) (x2 := x5_20) (z0 := y39_o0) hI.st (hg.up hI.le) ht39_o0 hc39_o0_1 hs39_o0_1 hc39_o0_2 hs39_o0_2 hc39_o0_3 hs39_o0_3 hc48_ (hs48_.up hI.sub) h).mono ?_
      rintro _ w47_ ⟨r47_0, y47_o0, A47_o0_1, c47_o0_1, A47_o0_2, c47_o0_2, A47_o0_3, c47_o0_3, L47_, H47_, rfl, hI47_, ht47_o0, hc47_o0_1, hs47_o0_1, hc47_o0_2, hs47_o0_2, hc47_o0_3, hs47_o0_3, h⟩
      refine Exists.elim (hI.call hI47_ (mem1 (by simp))) fun L470_ h47_ => ?_
      have hz47_ := hI.size
      replace hI := h47_.1
      have u47_ := h47_.2.1
      have hl47_ := h47_.2.2
      clear h47_
      replace hsd0_1 := hsd0_1.up u47_.hh
      replace htd1 := htd1.up u47_.hh u47_ (htd1.neT ht39_o0)
      replace htd0 := htd0.up u47_ (htd0.apart ht39_o0 (by decide))
      replace hs39_o0_1 := hs39_o0_1.up u47_.hh
      replace hs39_o0_2 := hs39_o0_2.up u47_.hh
      replace hs39_o0_3 := hs39_o0_3.up u47_.hh
      clear ht39_o0
      clear hI47_ u47_ hl47_
      refine ⟨_, rfl, ?_⟩
      refine Ops_step (R_assign rfl) rfl rfl ?_
      refine Ops_nil ?_
      refine then_n (k46 _ _ ?_)
      clear k46 K46
      refine W_keepB [0, 3, 4, 9] fun B_ b_ => ?_
      simp only [e_, Nat.reduceAdd, Nat.reduceBEq] at b_
      subst b_
      refine W_seq_k fun K50 k50 => ?_
      refine W_region [71, 72] rfl (Ops_step (R_move rfl) rfl rfl (Ops_step (R_neq rfl rfl) rfl rfl ?_))
      refine Ops_nil ?_
      refine then_n (k50 _ _ ?_)
      clear k50 K50
      refine W_if rfl (fun hc51_ => ?_) (fun hc51_ => ?_)
      ·
       replace h := h.1 hc51_
       refine W_seq_k fun K52 k52 => ?_
       refine W_region [73, 2] rfl (Ops_step (R_move rfl) rfl rfl (Ops_step (R_assign rfl) rfl rfl ?_))
       refine Ops_nil ?_
       refine then_n (k52 _ _ ?_)
       clear k52 K52
       refine W_keepB [2] fun B_ b_ => ?_
       simp only [e_, Nat.reduceAdd, Nat.reduceBEq] at b_
       subst b_
       refine W_ret ?_
       refine then_ret ?_
       clear k45 K45
       refine ⟨_, ⟨_, _, rfl, rfl, rfl⟩, ?_⟩
       exact ⟨r47_0, z0, Ad0_1, cd0_1, y47_o0, A47_o0_1, c47_o0_1, A47_o0_2, c47_o0_2, A47_o0_3, c47_o0_3, _, _, rfl, hI, htd0, hcd0_1, hsd0_1, ht47_o0, hc47_o0_1, hs47_o0_1, hc47_o0_2, hs47_o0_2, hc47_o0_3, hs47_o0_3, h⟩
      ·
       replace h := h.2 hc51_
       refine W_skip ?_
       refine then_n (k45 _ _ ?_)
       clear k45 K45
       refine W_seq_k fun K54 k54 => ?_
       refine W_region [74, 75, 76, 77, 78, 79, none, 80, 81, none] rfl (Ops_step (R_move rfl) rfl rfl (Ops_step (R_move rfl) rfl rfl (Ops_step (R_move rfl) rfl rfl (Ops_step (R_move rfl) rfl rfl ?_))))
       refine Ops_step (R_nilCheck rfl) rfl rfl (Ops_step (R_fieldAddr fo46_2 rfl) rfl rfl ?_)
       refine Ops_to0 (R_store sz3 rfl rfl htd0.blk (by show 3 < 5; decide) rfl) rfl ?_
       rintro _ w55_ ⟨hB55_, hF55_⟩
       replace hI := hI.tok hF55_ (out1 htd0.out) (mem1 (by simp))
       replace htd1 := htd1.fr hF55_ (htd1.neT htd0)
       replace ht47_o0 := ht47_o0.fr hF55_ (ht47_o0.apart htd0 (by decide))
       replace htd0 : Tok H47_ _ d0 46 ([.slice Ad0_1 z0.book_.l_.length cd0_1, .map (some d1), .pointer (some ⟨d2, 0, none⟩), vi (z0.gen_ + 1), vi z0.place_]) := ⟨hB55_, htd0.out⟩
       clear hF55_ hB55_
       refine Ops_step (R_nilCheck rfl) rfl rfl (Ops_step (R_fieldAddr fo46_3 rfl) rfl rfl ?_)
       refine Ops_to0 (R_store sz3 rfl rfl htd0.blk (by show 4 < 5; decide) rfl) rfl ?_
       rintro _ w56_ ⟨hB56_, hF56_⟩
       replace hI := hI.tok hF56_ (out1 htd0.out) (mem1 (by simp))
       replace htd1 := htd1.fr hF56_ (htd1.neT htd0)
       replace ht47_o0 := ht47_o0.fr hF56_ (ht47_o0.apart htd0 (by decide))
       replace htd0 : Tok H47_ _ d0 46 ([.slice Ad0_1 z0.book_.l_.length cd0_1, .map (some d1), .pointer (some ⟨d2, 0, none⟩), vi (z0.gen_ + 1), vi x4_14]) := ⟨hB56_, htd0.out⟩
       clear hF56_ hB56_
       refine Ops_nil ?_
       refine then_n (k54 _ _ ?_)
       clear k54 K54
       refine W_keepB [0, 3] fun B_ b_ => ?_
       simp only [e_, Nat.reduceAdd, Nat.reduceBEq] at b_
       subst b_
       refine W_seq_k fun K58 k58 => ?_
       refine W_seq_k fun K59 k59 => ?_
       refine W_region [82, 83, 84, 85, 86, 10] rfl (Ops_step (R_move rfl) rfl rfl (Ops_step (R_nilCheck rfl) rfl rfl (Ops_step (R_fieldAddr fo46_1 rfl) rfl rfl ?_)))
       refine Ops_step (R_loadB (v := .pointer (some ⟨d2, 0, none⟩)) ag25 rfl htd0.blk rfl) rfl rfl ?_
       refine Ops_call (C_func bd42 rfl) rfl rfl ?_
       refine (disk_Disk_Wipe_ok (x1 := 0) (z0 := y47_o0) hI.st (hg.up hI.le) ht47_o0 hc47_o0_1 hs47_o0_1 hc47_o0_2 hs47_o0_2 hc47_o0_3 hs47_o0_3 h).mono ?_
       rintro _ w60_ ⟨r60_0, y60_o0, A60_o0_1, c60_o0_1, A60_o0_2, c60_o0_2, A60_o0_3, c60_o0_3, L60_, H60_, rfl, hI60_, ht60_o0, hc60_o0_1, hs60_o0_1, hc60_o0_2, hs60_o0_2, hc60_o0_3, hs60_o0_3, h⟩
       refine Exists.elim (hI.call hI60_ (mem1 (by simp))) fun L600_ h60_ => ?_
       have hz60_ := hI.size
       replace hI := h60_.1
       have u60_ := h60_.2.1
       have hl60_ := h60_.2.2
       clear h60_
       replace hsd0_1 := hsd0_1.up u60_.hh
       replace htd1 := htd1.up u60_.hh u60_ (htd1.neT ht47_o0)
       replace htd0 := htd0.up u60_ (htd0.apart ht47_o0 (by decide))
       replace hs47_o0_1 := hs47_o0_1.up u60_.hh
       replace hs47_o0_2 := hs47_o0_2.up u60_.hh
       replace hs47_o0_3 := hs47_o0_3.up u60_.hh
       clear ht47_o0
       clear hI60_ u60_ hl60_
       refine ⟨_, rfl, ?_⟩
       refine Ops_step (R_assign rfl) rfl rfl ?_
       refine Ops_nil ?_
       refine then_n (k59 _ _ ?_)
       clear k59 K59
       refine W_seq_k fun K61 k61 => ?_
       refine W_region [87, 88] rfl (Ops_step (R_move rfl) rfl rfl (Ops_step (R_neq rfl rfl) rfl rfl ?_))
       refine Ops_nil ?_
       refine then_n (k61 _ _ ?_)
       clear k61 K61
       refine W_keepB [0, 3, 10, 88] fun B_ b_ => ?_
       simp only [e_, Nat.reduceAdd, Nat.reduceBEq] at b_
       subst b_
       refine W_if rfl (fun hc63_ => ?_) (fun hc63_ => ?_)
       ·
        replace h := h.1 hc63_
        refine W_seq_k fun K64 k64 => ?_
        refine W_region [89, 2] rfl (Ops_step (R_move rfl) rfl rfl (Ops_step (R_assign rfl) rfl rfl ?_))
        refine Ops_nil ?_
        refine then_n (k64 _ _ ?_)
        clear k64 K64
        refine W_ret ?_
        refine then_ret ?_
        clear k58 K58
        refine ⟨_, ⟨_, _, rfl, rfl, rfl⟩, ?_⟩
        exact ⟨r60_0, (journal_Journal.mk z0.book_ (z0.gen_ + 1) x4_14), Ad0_1, cd0_1, y60_o0, A60_o0_1, c60_o0_1, A60_o0_2, c60_o0_2, A60_o0_3, c60_o0_3, _, _, rfl, hI, htd0, hcd0_1, hsd0_1, ht60_o0, hc60_o0_1, hs60_o0_1, hc60_o0_2, hs60_o0_2, hc60_o0_3, hs60_o0_3, h⟩
       ·
        replace h := h.2 hc63_
        refine W_skip ?_
        refine then_n (k58 _ _ ?_)
        clear k58 K58
        refine W_seq_k fun K65 k65 => ?_
        refine W_drawF [90, 91, 92, 93, 94, 95, 96, 97, 98, 99, 100, 101, 102, 2] [(0, true), (1, true), (2, true), (3, true), (4, true), (5, true), (6, true), (7, true), (8, true), (9, true), (10, true), (11, false), (12, false), (13, true)] TJtD.hm rfl (by kernel_rfl) fun ops66_ w66_ hops66_ hF66_ => ?_
        replace hI := hI.fr0 hF66_
        replace htd1 := htd1.fr0 hF66_
        replace htd0 := htd0.fr0 hF66_
        replace ht60_o0 := ht60_o0.fr0 hF66_
        clear hF66_
        refine HSp (R_move rfl) rfl rfl (HSp (R_nilCheck rfl) rfl rfl (HSp (R_fieldAddr fo46_1 rfl) rfl rfl ?_))
        refine HS_loadB (v := .pointer (some ⟨d2, 0, none⟩)) ag25 rfl htd0.blk rfl rfl rfl ?_
        refine HSp (R_move rfl) rfl rfl (HSp (R_move rfl) rfl rfl (HSp (R_nilCheck rfl) rfl rfl (HSp (R_fieldAddr fo46_0 rfl) rfl rfl (HSp (R_fieldAddr fo44_0 rfl) rfl rfl ?_))))
        refine HS_loadB (v := .slice Ad0_1 z0.book_.l_.length cd0_1) ag41 rfl htd0.blk rfl rfl rfl ?_
        refine HSp (R_len Try.underlying41 rfl rfl) rfl rfl ?_
        refine HS_call [3] _ rfl (by rw [hops66_]; kernel_rfl) (C_func bd40 rfl) rfl rfl ?_
        refine (journal_head_ok (x0 := (z0.gen_ + 1)) (x1 := (z0.book_.l_.length : Int)) hI.st (hg.up hI.le)  h).mono ?_
        rintro _ w67_ ⟨A67_0, c67_0, r67_0, L67_, H67_, rfl, hI67_, ho67_0, h⟩
        refine Exists.elim (hI.call hI67_ (by simp)) fun L670_ h67_ => ?_
        have hz67_ := hI.size
        replace hI := h67_.1
        have u67_ := h67_.2.1
        have hl67_ := h67_.2.2
        clear h67_
        replace hsd0_1 := hsd0_1.up u67_.hh
        replace htd1 := htd1.up u67_.hh u67_ (by simp)
        replace htd0 := htd0.up u67_ (by simp)
        replace ht60_o0 := ht60_o0.up u67_ (by simp)
        replace hs60_o0_1 := hs60_o0_1.up u67_.hh
        replace hs60_o0_2 := hs60_o0_2.up u67_.hh
        replace hs60_o0_3 := hs60_o0_3.up u67_.hh
        replace ho67_0 := OwnS.backS ho67_0 hz67_ (Le.refl _)
        clear hI67_ u67_ hl67_
        refine ⟨_, rfl, ⟨(htd0.blk.at_ rfl), trivial⟩, ?_⟩
        refine Exists.elim (ho67_0.freeze hI) fun L68_ h68_ => Exists.elim h68_ fun H68_ h68_ => ?_
        replace hI := h68_.1
        have u68_ := h68_.2.1
        have hs68_ := h68_.2.2.1 (Le.no _)
        have hc68_ := ho67_0.cap
        replace hsd0_1 := hsd0_1.up u68_.hh
        replace htd1 := htd1.up u68_.hh u68_ (ho67_0.old hlt_d1)
        replace htd0 := htd0.up u68_ (ho67_0.old hlt_d0)
        replace ht60_o0 := ht60_o0.up u68_ (ho67_0.old hlt_d2)
        replace hs60_o0_1 := hs60_o0_1.up u68_.hh
        replace hs60_o0_2 := hs60_o0_2.up u68_.hh
        replace hs60_o0_3 := hs60_o0_3.up u68_.hh
        clear h68_ u68_ ho67_0
        refine HS_call [] _ rfl (by rw [hops66_]; kernel_rfl) (C_func bd26 rfl) rfl rfl ?_
        refine (disk_Disk_Append_ok (x1 := 0) (x2 := r67_0) (z0 := y60_o0) hI.st (hg.up hI.le) ht60_o0 hc60_o0_1 hs60_o0_1 hc60_o0_2 hs60_o0_2 hc60_o0_3 hs60_o0_3 hc68_ (hs68_.up hI.sub) h).mono ?_
        rintro _ w69_ ⟨r69_0, y69_o0, A69_o0_1, c69_o0_1, A69_o0_2, c69_o0_2, A69_o0_3, c69_o0_3, L69_, H69_, rfl, hI69_, ht69_o0, hc69_o0_1, hs69_o0_1, hc69_o0_2, hs69_o0_2, hc69_o0_3, hs69_o0_3, h⟩
        refine Exists.elim (hI.call hI69_ (mem1 (by simp))) fun L690_ h69_ => ?_
        have hz69_ := hI.size
        replace hI := h69_.1
        have u69_ := h69_.2.1
        have hl69_ := h69_.2.2
        clear h69_
        replace hsd0_1 := hsd0_1.up u69_.hh
        replace htd1 := htd1.up u69_.hh u69_ (htd1.neT ht60_o0)
        replace htd0 := htd0.up u69_ (htd0.apart ht60_o0 (by decide))
        replace hs60_o0_1 := hs60_o0_1.up u69_.hh
        replace hs60_o0_2 := hs60_o0_2.up u69_.hh
        replace hs60_o0_3 := hs60_o0_3.up u69_.hh
        clear ht60_o0
        clear hI69_ u69_ hl69_
        refine ⟨_, rfl, trivial, ?_⟩
        refine HSp (R_assign rfl) rfl rfl ?_
        refine HS_nil ?_
        clear hops66_
        refine then_n (k65 _ _ ?_)
        clear k65 K65
        refine W_keepB [2] fun B_ b_ => ?_
        simp only [e_, Nat.reduceAdd, Nat.reduceBEq] at b_
        subst b_
        refine W_ret ?_
        refine ⟨_, ⟨_, _, rfl, rfl, rfl⟩, ?_⟩
        exact ⟨r69_0, (journal_Journal.mk z0.book_ (z0.gen_ + 1) x4_14), Ad0_1, cd0_1, y69_o0, A69_o0_1, c69_o0_1, A69_o0_2, c69_o0_2, A69_o0_3, c69_o0_3, _, _, rfl, hI, htd0, hcd0_1, hsd0_1, ht69_o0, hc69_o0_1, hs69_o0_1, hc69_o0_2, hs69_o0_2, hc69_o0_3, hs69_o0_3, h⟩

theorem journal_Open_ok {G : Gh} {w : World} (hS : St G w) (hg : GL G) {d0 : Nat} {z0 : disk_Disk} {Ad0_1 : Option Addr} {cd0_1 : Nat} {Ad0_2 : Option Addr} {cd0_2 : Nat} {Ad0_3 : Option Addr} {cd0_3 : Nat} (htd0 : Tok G w d0 53 ([.slice Ad0_1 z0.files_.e0_.length cd0_1, .slice Ad0_2 z0.files_.e1_.length cd0_2, .slice Ad0_3 z0.files_.e2_.length cd0_3, vi z0.room_, .bool z0.off_, .bool z0.armed_, vi z0.left_])) (hcd0_1 : z0.files_.e0_.length ≤ cd0_1) (hsd0_1 : Sl G Ad0_1 z0.files_.e0_) (hcd0_2 : z0.files_.e1_.length ≤ cd0_2) (hsd0_2 : Sl G Ad0_2 z0.files_.e1_) (hcd0_3 : z0.files_.e2_.length ≤ cd0_3) (hsd0_3 : Sl G Ad0_3 z0.files_.e2_) {Q0 : Int → disk_Disk → Prop} {Q1 : Int → disk_Disk → journal_Journal → (List (Int × Int)) → Prop} (h : journal_Open z0 Q0 Q1) : Calls Try.prog 20 #[.pointer (some ⟨d0, 0, none⟩)] w fun e w2 => (∃ (r1 : Int) (y0 : disk_Disk) (Ay0_1 : Option Addr) (cy0_1 : Nat) (Ay0_2 : Option Addr) (cy0_2 : Nat) (Ay0_3 : Option Addr) (cy0_3 : Nat) (L H : Gh), e = .returned (.tuple #[.pointer none, vi r1]) ∧ Inv [d0] G w L H w2 ∧ Tok H w2 d0 53 ([.slice Ay0_1 y0.files_.e0_.length cy0_1, .slice Ay0_2 y0.files_.e1_.length cy0_2, .slice Ay0_3 y0.files_.e2_.length cy0_3, vi y0.room_, .bool y0.off_, .bool y0.armed_, vi y0.left_]) ∧ y0.files_.e0_.length ≤ cy0_1 ∧ Sl H Ay0_1 y0.files_.e0_ ∧ y0.files_.e1_.length ≤ cy0_2 ∧ Sl H Ay0_2 y0.files_.e1_ ∧ y0.files_.e2_.length ≤ cy0_3 ∧ Sl H Ay0_3 y0.files_.e2_ ∧ Q0 r1 y0) ∨ (∃ (r1 : Int) (y0 : disk_Disk) (Ay0_1 : Option Addr) (cy0_1 : Nat) (Ay0_2 : Option Addr) (cy0_2 : Nat) (Ay0_3 : Option Addr) (cy0_3 : Nat) (o1 : Nat) (y1 : journal_Journal) (Ay1_1 : Option Addr) (cy1_1 : Nat) (o2 : Nat) (y2 : List (Int × Int)) (L H : Gh), e = .returned (.tuple #[.pointer (some ⟨o1, 0, none⟩), vi r1]) ∧ Inv [d0] G w L H w2 ∧ Tok H w2 d0 53 ([.slice Ay0_1 y0.files_.e0_.length cy0_1, .slice Ay0_2 y0.files_.e1_.length cy0_2, .slice Ay0_3 y0.files_.e2_.length cy0_3, vi y0.room_, .bool y0.off_, .bool y0.armed_, vi y0.left_]) ∧ y0.files_.e0_.length ≤ cy0_1 ∧ Sl H Ay0_1 y0.files_.e0_ ∧ y0.files_.e1_.length ≤ cy0_2 ∧ Sl H Ay0_2 y0.files_.e1_ ∧ y0.files_.e2_.length ≤ cy0_3 ∧ Sl H Ay0_3 y0.files_.e2_ ∧ w.heap.size ≤ o1 ∧ Tok H w2 o1 46 ([.slice Ay1_1 y1.book_.l_.length cy1_1, .map (some o2), .pointer (some ⟨d0, 0, none⟩), vi y1.gen_, vi y1.place_]) ∧ y1.book_.l_.length ≤ cy1_1 ∧ Sl H Ay1_1 y1.book_.l_ ∧ w.heap.size ≤ o2 ∧ MTok H H w2 o2 y2 ∧ Q1 r1 y0 y1 y2) := by
 unfold journal_Open at h
 have hI := Inv.start (M := [d0]) hS
 refine calls_W 133 Try.func20 rfl Try.ntmps20 rfl [.tmp 2, .tmp 3] rfl ?_
 have hlt_d0 := htd0.blk.lt
 refine W_seq_k fun K1 k1 => ?_
 refine W_region [2, 3] rfl (Ops_step (R_assign rfl) rfl rfl (Ops_step (R_assign rfl) rfl rfl ?_))
 refine Ops_nil ?_
 refine then_n (k1 _ _ ?_)
 clear k1 K1
 refine W_seq_k fun K2 k2 => ?_
 refine W_region [26, 27, 28, 29, 30, 4, none] rfl ?_
 have hI0_ := hI
 refine Ops_to (R_makeMap) rfl rfl ?_
 rintro _ w3_ ⟨m3_, rfl, hb3_, hB3_, hF3_⟩
 replace hI := hI.fr0 hF3_
 replace htd0 := htd0.fr0 hF3_
 have ht3_ : MTok G G _ m3_ ([] : List (Int × Int)) := MTok.made hB3_ (Out.ge hI0_.st (Nat.le_of_eq hb3_.symm))
 have hge_m3_ : w.heap.size ≤ m3_ := hb3_ ▸ hI0_.size
 clear hB3_ hb3_ hI0_ hF3_
 refine Ops_step (R_build (pl := [(1, 1)]) (cs := [.slice none 0 0, .map (some m3_)]) zr44 pl44 rfl rfl rfl) rfl rfl ?_
 refine Ops_step (R_move rfl) rfl rfl ?_
 refine Ops_step (R_build (pl := [(0, 2), (2, 1)]) (cs := [.slice none 0 0, .map (some m3_), .pointer (some ⟨d0, 0, none⟩), vi 0, vi 0]) zr46 pl46 rfl rfl rfl) rfl rfl ?_
 have hI0_ := hI
 refine Ops_to (R_box rfl) rfl rfl ?_
 rintro _ w4_ ⟨b4_, rfl, hb4_, hB4_, hF4_⟩
 replace hI := hI.fr0 hF4_
 replace htd0 := htd0.fr0 hF4_
 replace ht3_ := ht3_.fr0 hF4_
 have ht4_ : Tok G _ b4_ 46 ([.slice none 0 0, .map (some m3_), .pointer (some ⟨d0, 0, none⟩), vi 0, vi 0]) := ⟨hB4_.to rfl, Out.ge hI0_.st (Nat.le_of_eq hb4_.symm)⟩
 have hge_b4_ : w.heap.size ≤ b4_ := hb4_ ▸ hI0_.size
 clear hB4_ hb4_ hI0_ hF4_
 have hI0_ := hI
 refine Ops_to (R_alloc zr26) rfl rfl ?_
 rintro _ w5_ ⟨b5_, rfl, hb5_, hB5_, hF5_⟩
 replace hI := hI.fr0 hF5_
 replace htd0 := htd0.fr0 hF5_
 replace ht3_ := ht3_.fr0 hF5_
 replace ht4_ := ht4_.fr0 hF5_
 have ht5_ : Tok G _ b5_ 26 ([.pointer none]) := ⟨hB5_.to rfl, Out.ge hI0_.st (Nat.le_of_eq hb5_.symm)⟩
 have hge_b5_ : w.heap.size ≤ b5_ := hb5_ ▸ hI0_.size
 clear hB5_ hb5_ hI0_ hF5_
 refine Ops_to0 (R_store sz26 rfl rfl ht5_.blk (by show 0 < 1; decide) rfl) rfl ?_
 rintro _ w6_ ⟨hB6_, hF6_⟩
 replace hI := hI.tok hF6_ (out1 ht5_.out) (new1 hge_b5_)
 replace htd0 := htd0.fr hF6_ (htd0.apart ht5_ (by decide))
 replace ht3_ := ht3_.fr hF6_ (ht3_.neT ht5_)
 replace ht4_ := ht4_.fr hF6_ (ht4_.apart ht5_ (by decide))
 replace ht5_ : Tok G _ b5_ 26 ([.pointer (some ⟨b4_, 0, none⟩)]) := ⟨hB6_, ht5_.out⟩
 clear hF6_ hB6_
 refine Ops_nil ?_
 refine then_n (k2 _ _ ?_)
 clear k2 K2
 refine W_keepB [0, 4] fun B_ b_ => ?_
 simp only [e_, Nat.reduceAdd, Nat.reduceBEq] at b_
 subst b_
 refine W_seq_k fun K8 k8 => ?_
 refine W_region [5] rfl ?_
 have hI0_ := hI
 refine Ops_to (R_alloc zr41) rfl rfl ?_
 rintro _ w9_ ⟨b9_, rfl, hb9_, hB9_, hF9_⟩
 replace hI := hI.fr0 hF9_
 replace htd0 := htd0.fr0 hF9_
 replace ht3_ := ht3_.fr0 hF9_
 replace ht4_ := ht4_.fr0 hF9_
 replace ht5_ := ht5_.fr0 hF9_
 have ht9_ : Tok G _ b9_ 41 ([.slice none 0 0]) := ⟨hB9_.to rfl, Out.ge hI0_.st (Nat.le_of_eq hb9_.symm)⟩
 have hge_b9_ : w.heap.size ≤ b9_ := hb9_ ▸ hI0_.size
 clear hB9_ hb9_ hI0_ hF9_
 refine Ops_nil ?_
 refine then_n (k8 _ _ ?_)
 clear k8 K8
 refine ex_ h fun J10_ hr10_ h => ?_
 refine W_seq_join [0, 4, 5] [] (fun vals_ w2 => ∃ (yb4__10 : journal_Journal) (Ab4__10_1 : Option Addr) (cb4__10_1 : Nat) (yb9__10 : List journal_record) (Ab9__10_1 : Option Addr) (cb9__10_1 : Nat) (L H : Gh), vals_ = [] ∧ J10_ yb4__10 yb9__10 ∧ Inv [d0] G w L H w2 ∧ Le Gh.no L ∧ Le G H ∧ Tok H w2 b4_ 46 ([.slice Ab4__10_1 yb4__10.book_.l_.length cb4__10_1, .map (some m3_), .pointer (some ⟨d0, 0, none⟩), vi yb4__10.gen_, vi yb4__10.place_]) ∧ yb4__10.book_.l_.length ≤ cb4__10_1 ∧ Sl H Ab4__10_1 yb4__10.book_.l_ ∧ Tok H w2 b9_ 41 ([.slice Ab9__10_1 yb9__10.length cb9__10_1]) ∧ yb9__10.length ≤ cb9__10_1 ∧ Sl H Ab9__10_1 yb9__10 ∧ Tok H w2 d0 53 ([.slice Ad0_1 z0.files_.e0_.length cd0_1, .slice Ad0_2 z0.files_.e1_.length cd0_2, .slice Ad0_3 z0.files_.e2_.length cd0_3, vi z0.room_, .bool z0.off_, .bool z0.armed_, vi z0.left_]) ∧ MTok H H w2 m3_ ([] : List (Int × Int)) ∧ Tok H w2 b5_ 26 ([.pointer (some ⟨b4_, 0, none⟩)]) ∧ True) (fun B_ b_ => ?_) (fun B_ b_ => ?_)
 ·
  simp only [e_, Nat.reduceAdd, Nat.reduceBEq] at b_
  subst b_
  clear hr10_
  have hll10_ := Le.refl Gh.no
  have hhh10_ := Le.refl G
  refine W_seq_k fun K11 k11 => ?_
  refine W_region [6] rfl (Ops_step (R_assign rfl) rfl rfl ?_)
  refine Ops_nil ?_
  refine then_n (k11 _ _ ?_)
  clear k11 K11
  refine W_block ?_
  refine Exists.elim h fun I12_ h => Exists.elim h fun n12_ h => ?_
  have h0_ := h.1
  have hs12_ := h.2
  clear h
  refine W_loopB [0, 4, 5] [6] (fun m vals_ w2 => ∃ (x6_12 : Int) (yb4__12 : journal_Journal) (Ab4__12_1 : Option Addr) (cb4__12_1 : Nat) (yb9__12 : List journal_record) (Ab9__12_1 : Option Addr) (cb9__12_1 : Nat) (L H : Gh), vals_ = [vi x6_12] ∧ I12_ m x6_12 yb4__12 yb9__12 ∧ Inv [d0] G w L H w2 ∧ Le Gh.no L ∧ Le G H ∧ Tok H w2 b4_ 46 ([.slice Ab4__12_1 yb4__12.book_.l_.length cb4__12_1, .map (some m3_), .pointer (some ⟨d0, 0, none⟩), vi yb4__12.gen_, vi yb4__12.place_]) ∧ yb4__12.book_.l_.length ≤ cb4__12_1 ∧ Sl H Ab4__12_1 yb4__12.book_.l_ ∧ Tok H w2 b9_ 41 ([.slice Ab9__12_1 yb9__12.length cb9__12_1]) ∧ yb9__12.length ≤ cb9__12_1 ∧ Sl H Ab9__12_1 yb9__12 ∧ Tok H w2 d0 53 ([.slice Ad0_1 z0.files_.e0_.length cd0_1, .slice Ad0_2 z0.files_.e1_.length cd0_2, .slice Ad0_3 z0.files_.e2_.length cd0_3, vi z0.room_, .bool z0.off_, .bool z0.armed_, vi z0.left_]) ∧ MTok H H w2 m3_ ([] : List (Int × Int)) ∧ Tok H w2 b5_ 26 ([.pointer (some ⟨b4_, 0, none⟩)]) ∧ True) n12_ _ rfl ⟨1, (journal_Journal.mk (journal_book.mk []) 0 0), none, 0, [], none, 0, _, _, rfl, h0_, hI, Le.refl _, Le.refl _, ht4_, (Nat.le_refl 0), Sl.nil, ht9_, (Nat.le_refl 0), Sl.nil, htd0, ht3_, ht5_, trivial⟩ fun B_ b_ => ?_
  clear h0_
  simp only [e_, Nat.reduceAdd, Nat.reduceBEq] at b_
  subst b_
  clear ht3_
  clear ht5_
  clear htd0
  rintro m12_ _ w12_ ⟨x6_12, yb4__12, Ab4__12_1, cb4__12_1, yb9__12, Ab9__12_1, cb9__12_1, L12_, H12_, rfl, hJ12_, hI12_, hll12_, hhh12_, htb4__12, hcb4__12_1, hsb4__12_1, htb9__12, hcb9__12_1, hsb9__12_1, htd0, ht3_, ht5_, -⟩
  replace hI := hI12_
  clear hI12_
  have h := hs12_ m12_ x6_12 yb4__12 yb9__12 hJ12_
  clear hs12_ hJ12_
  replace hsd0_1 := hsd0_1.up hhh12_
  replace hsd0_2 := hsd0_2.up hhh12_
  replace hsd0_3 := hsd0_3.up hhh12_
  replace hll10_ := hll10_.trans hll12_
  replace hhh10_ := hhh10_.trans hhh12_
  refine W_seq_k fun K13 k13 => ?_
  refine W_seq_k fun K14 k14 => ?_
  refine W_region [31, 32] rfl (Ops_step (R_move rfl) rfl rfl (Ops_step (R_lss rfl rfl) rfl rfl ?_))
  refine Ops_nil ?_
  refine then_n (k14 _ _ ?_)
  clear k14 K14
  refine W_if rfl (fun hc15_ => ?_) (fun hc15_ => ?_)
  ·
   replace h := h.1 hc15_
   refine W_skip ?_
   refine then_n (k13 _ _ ?_)
   clear k13 K13
   refine ex_ h fun J16_ hr16_ h => ?_
   refine W_seq_join [0, 4, 5, 6] [] (fun vals_ w2 => ∃ (yb4__16 : journal_Journal) (Ab4__16_1 : Option Addr) (cb4__16_1 : Nat) (yb9__16 : List journal_record) (Ab9__16_1 : Option Addr) (cb9__16_1 : Nat) (L H : Gh), vals_ = [] ∧ J16_ yb4__16 yb9__16 ∧ Inv [d0] G w L H w2 ∧ Le L12_ L ∧ Le H12_ H ∧ Tok H w2 b4_ 46 ([.slice Ab4__16_1 yb4__16.book_.l_.length cb4__16_1, .map (some m3_), .pointer (some ⟨d0, 0, none⟩), vi yb4__16.gen_, vi yb4__16.place_]) ∧ yb4__16.book_.l_.length ≤ cb4__16_1 ∧ Sl H Ab4__16_1 yb4__16.book_.l_ ∧ Tok H w2 b9_ 41 ([.slice Ab9__16_1 yb9__16.length cb9__16_1]) ∧ yb9__16.length ≤ cb9__16_1 ∧ Sl H Ab9__16_1 yb9__16 ∧ Tok H w2 d0 53 ([.slice Ad0_1 z0.files_.e0_.length cd0_1, .slice Ad0_2 z0.files_.e1_.length cd0_2, .slice Ad0_3 z0.files_.e2_.length cd0_3, vi z0.room_, .bool z0.off_, .bool z0.armed_, vi z0.left_]) ∧ MTok H H w2 m3_ ([] : List (Int × Int)) ∧ Tok H w2 b5_ 26 ([.pointer (some ⟨b4_, 0, none⟩)]) ∧ True) (fun B_ b_ => ?_) (fun B_ b_ => ?_)
   ·
    simp only [e_, Nat.reduceAdd, Nat.reduceBEq] at b_
    subst b_
    clear hr16_
    have hll16_ := Le.refl L12_
    have hhh16_ := Le.refl H12_
    refine W_block ?_
    refine W_seq_k fun K17 k17 => ?_
    refine W_region [36, 37, 38, 35, 39, 40, 7, 8] rfl (Ops_step (R_move rfl) rfl rfl (Ops_step (R_move rfl) rfl rfl ?_))
    refine Ops_call (C_func bd44 rfl) rfl rfl ?_
    refine (disk_Disk_Read_ok (x1 := x6_12) (z0 := z0) hI.st (hg.up hI.le) htd0 hcd0_1 hsd0_1 hcd0_2 hsd0_2 hcd0_3 hsd0_3 h).mono ?_
    rintro _ w18_ ⟨A18_0, c18_0, r18_0, r18_1, L18_, H18_, rfl, hI18_, ho18_0, h⟩
    refine Exists.elim (hI.call hI18_ (by simp)) fun L180_ h18_ => ?_
    have hz18_ := hI.size
    replace hI := h18_.1
    have u18_ := h18_.2.1
    have hl18_ := h18_.2.2
    clear h18_
    replace hsd0_1 := hsd0_1.up u18_.hh
    replace hsd0_2 := hsd0_2.up u18_.hh
    replace hsd0_3 := hsd0_3.up u18_.hh
    replace hll10_ := hll10_.trans u18_.ll
    replace hhh10_ := hhh10_.trans u18_.hh
    replace htd0 := htd0.up u18_ (by simp)
    replace ht3_ := ht3_.up u18_.hh u18_ (by simp)
    replace ht5_ := ht5_.up u18_ (by simp)
    replace htb4__12 := htb4__12.up u18_ (by simp)
    replace hsb4__12_1 := hsb4__12_1.up u18_.hh
    replace htb9__12 := htb9__12.up u18_ (by simp)
    replace hsb9__12_1 := hsb9__12_1.up u18_.hh
    replace hll12_ := hll12_.trans u18_.ll
    replace hhh12_ := hhh12_.trans u18_.hh
    replace hll16_ := hll16_.trans u18_.ll
    replace hhh16_ := hhh16_.trans u18_.hh
    replace ho18_0 := OwnS.backS ho18_0 hz18_ (Le.refl _)
    clear hI18_ u18_ hl18_
    refine ⟨_, rfl, ?_⟩
    refine Exists.elim (ho18_0.freeze hI) fun L19_ h19_ => Exists.elim h19_ fun H19_ h19_ => ?_
    replace hI := h19_.1
    have u19_ := h19_.2.1
    have hs19_ := h19_.2.2.1 (Le.no _)
    have hc19_ := ho18_0.cap
    replace hsd0_1 := hsd0_1.up u19_.hh
    replace hsd0_2 := hsd0_2.up u19_.hh
    replace hsd0_3 := hsd0_3.up u19_.hh
    replace hll10_ := hll10_.trans u19_.ll
    replace hhh10_ := hhh10_.trans u19_.hh
    replace htd0 := htd0.up u19_ (ho18_0.old hlt_d0)
    replace ht3_ := ht3_.up u19_.hh u19_ (ht3_.neO ho18_0)
    replace ht5_ := ht5_.up u19_ (ht5_.sep ho18_0 (by decide))
    replace htb4__12 := htb4__12.up u19_ (htb4__12.sep ho18_0 (by decide))
    replace hsb4__12_1 := hsb4__12_1.up u19_.hh
    replace htb9__12 := htb9__12.up u19_ (htb9__12.sep ho18_0 (by decide))
    replace hsb9__12_1 := hsb9__12_1.up u19_.hh
    replace hll12_ := hll12_.trans u19_.ll
    replace hhh12_ := hhh12_.trans u19_.hh
    replace hll16_ := hll16_.trans u19_.ll
    replace hhh16_ := hhh16_.trans u19_.hh
    clear h19_ u19_ ho18_0
    refine Ops_step (R_move rfl) rfl rfl ?_
    refine Ops_step (R_extract (v := .slice A18_0 r18_0.length c18_0) rfl rfl) rfl rfl ?_
    refine Ops_step (R_extract (v := vi r18_1) rfl rfl) rfl rfl ?_
    refine Ops_step (R_assign rfl) rfl rfl (Ops_step (R_assign rfl) rfl rfl ?_)
    refine Ops_nil ?_
    refine then_n (k17 _ _ ?_)
    clear k17 K17
    refine W_keepB [0, 4, 5, 6, 7, 8] fun B_ b_ => ?_
    simp only [e_, Nat.reduceAdd, Nat.reduceBEq] at b_
    subst b_
    refine W_seq_k fun K21 k21 => ?_
    refine W_seq_k fun K22 k22 => ?_
    refine W_region [41, 42] rfl (Ops_step (R_move rfl) rfl rfl (Ops_step (R_neq rfl rfl) rfl rfl ?_))
    refine Ops_nil ?_
    refine then_n (k22 _ _ ?_)
    clear k22 K22
    refine W_if rfl (fun hc23_ => ?_) (fun hc23_ => ?_)
    ·
     replace h := h.1 hc23_
     refine W_seq_k fun K24 k24 => ?_
     refine W_region [43, 2, 3] rfl (Ops_step (R_move rfl) rfl rfl (Ops_step (R_assign rfl) rfl rfl (Ops_step (R_assign rfl) rfl rfl ?_)))
     refine Ops_nil ?_
     refine then_n (k24 _ _ ?_)
     clear k24 K24
     refine W_keepB [2, 3] fun B_ b_ => ?_
     simp only [e_, Nat.reduceAdd, Nat.reduceBEq] at b_
     subst b_
     refine W_ret ?_
     refine then_ret ?_
     clear k21 K21
     refine block_ret ?_
     refine then_ret ?_
     refine then_ret ?_
     refine block_ret ?_
     refine then_ret ?_
     refine ⟨_, ⟨_, _, rfl, rfl, ⟨_, _, rfl, rfl, rfl⟩⟩, ?_⟩
     exact .inl ⟨r18_1, z0, Ad0_1, cd0_1, Ad0_2, cd0_2, Ad0_3, cd0_3, _, _, rfl, hI, htd0, hcd0_1, hsd0_1, hcd0_2, hsd0_2, hcd0_3, hsd0_3, h⟩
    ·
     replace h := h.2 hc23_
     refine W_skip ?_
     refine then_n (k21 _ _ ?_)
     clear k21 K21
     refine W_seq_k fun K26 k26 => ?_
     refine W_region [45, 46, 44, 47, 48, 49, 50, 51, 9, 10, 11, 12, 13] rfl (Ops_step (R_move rfl) rfl rfl ?_)
     refine Ops_call (C_func bd45 rfl) rfl rfl ?_
     refine (journal_opened_ok (x0 := r18_0) hI.st (hg.up hI.le) hc19_ (hs19_.up hI.sub) h).mono ?_
     rintro _ w27_ ⟨r27_0, r27_1, A27_2, c27_2, r27_2, r27_3, r27_4, L27_, H27_, rfl, hI27_, ho27_2, h⟩
     refine Exists.elim (hI.call hI27_ (by simp)) fun L270_ h27_ => ?_
     have hz27_ := hI.size
     replace hI := h27_.1
     have u27_ := h27_.2.1
     have hl27_ := h27_.2.2
     clear h27_
     replace hsd0_1 := hsd0_1.up u27_.hh
     replace hsd0_2 := hsd0_2.up u27_.hh
     replace hsd0_3 := hsd0_3.up u27_.hh
     replace hll10_ := hll10_.trans u27_.ll
     replace hhh10_ := hhh10_.trans u27_.hh
     replace htd0 := htd0.up u27_ (by simp)
     replace ht3_ := ht3_.up u27_.hh u27_ (by simp)
     replace ht5_ := ht5_.up u27_ (by simp)
     replace htb4__12 := htb4__12.up u27_ (by simp)
     replace hsb4__12_1 := hsb4__12_1.up u27_.hh
     replace htb9__12 := htb9__12.up u27_ (by simp)
     replace hsb9__12_1 := hsb9__12_1.up u27_.hh
     replace hll12_ := hll12_.trans u27_.ll
     replace hhh12_ := hhh12_.trans u27_.hh
     replace hll16_ := hll16_.trans u27_.ll
     replace hhh16_ := hhh16_.trans u27_.hh
     replace ho27_2 := OwnS.back ho27_2 hz27_ hl27_ (Le.refl _)
     clear hI27_ u27_ hl27_
     refine ⟨_, rfl, ?_⟩
     refine Exists.elim (ho27_2.freeze hI) fun L28_ h28_ => Exists.elim h28_ fun H28_ h28_ => ?_
     replace hI := h28_.1
     have u28_ := h28_.2.1
     have hs28_ := h28_.2.2.1 (Le.refl _)
     have hc28_ := ho27_2.cap
     replace hsd0_1 := hsd0_1.up u28_.hh
     replace hsd0_2 := hsd0_2.up u28_.hh
     replace hsd0_3 := hsd0_3.up u28_.hh
     replace hll10_ := hll10_.trans u28_.ll
     replace hhh10_ := hhh10_.trans u28_.hh
     replace htd0 := htd0.up u28_ (ho27_2.old hlt_d0)
     replace ht3_ := ht3_.up u28_.hh u28_ (ht3_.neO ho27_2)
     replace ht5_ := ht5_.up u28_ (ht5_.sep ho27_2 (by decide))
     replace htb4__12 := htb4__12.up u28_ (htb4__12.sep ho27_2 (by decide))
     replace hsb4__12_1 := hsb4__12_1.up u28_.hh
     replace htb9__12 := htb9__12.up u28_ (htb9__12.sep ho27_2 (by decide))
     replace hsb9__12_1 := hsb9__12_1.up u28_.hh
     replace hll12_ := hll12_.trans u28_.ll
     replace hhh12_ := hhh12_.trans u28_.hh
     replace hll16_ := hll16_.trans u28_.ll
     replace hhh16_ := hhh16_.trans u28_.hh
     clear h28_ u28_ ho27_2
     refine Ops_step (R_move rfl) rfl rfl ?_
     refine Ops_step (R_extract (v := vi r27_0) rfl rfl) rfl rfl ?_
     refine Ops_step (R_extract (v := vi r27_1) rfl rfl) rfl rfl ?_
     refine Ops_step (R_extract (v := .slice A27_2 r27_2.length c27_2) rfl rfl) rfl rfl ?_
     refine Ops_step (R_extract (v := .bool r27_3) rfl rfl) rfl rfl ?_
     refine Ops_step (R_extract (v := .bool r27_4) rfl rfl) rfl rfl ?_
     refine Ops_step (R_assign rfl) rfl rfl (Ops_step (R_assign rfl) rfl rfl (Ops_step (R_assign rfl) rfl rfl (Ops_step (R_assign rfl) rfl rfl (Ops_step (R_assign rfl) rfl rfl ?_))))
     refine Ops_nil ?_
     refine then_n (k26 _ _ ?_)
     clear k26 K26
     refine W_keepB [0, 4, 5, 6, 9, 10, 11, 12, 13] fun B_ b_ => ?_
     simp only [e_, Nat.reduceAdd, Nat.reduceBEq] at b_
     subst b_
     refine ex_ h fun J30_ hr30_ h => ?_
     refine W_seq_join [0, 4, 5, 6, 9, 11] [69] (fun vals_ w2 => ∃ (x69_30 : Bool) (L H : Gh), vals_ = [.bool x69_30] ∧ J30_ x69_30 ∧ Inv [d0] G w L H w2 ∧ Le L28_ L ∧ Le H28_ H ∧ Tok H w2 d0 53 ([.slice Ad0_1 z0.files_.e0_.length cd0_1, .slice Ad0_2 z0.files_.e1_.length cd0_2, .slice Ad0_3 z0.files_.e2_.length cd0_3, vi z0.room_, .bool z0.off_, .bool z0.armed_, vi z0.left_]) ∧ MTok H H w2 m3_ ([] : List (Int × Int)) ∧ Tok H w2 b5_ 26 ([.pointer (some ⟨b4_, 0, none⟩)]) ∧ Tok H w2 b4_ 46 ([.slice Ab4__12_1 yb4__12.book_.l_.length cb4__12_1, .map (some m3_), .pointer (some ⟨d0, 0, none⟩), vi yb4__12.gen_, vi yb4__12.place_]) ∧ Tok H w2 b9_ 41 ([.slice Ab9__12_1 yb9__12.length cb9__12_1]) ∧ True) (fun B_ b_ => ?_) (fun B_ b_ => ?_)
     ·
      simp only [e_, Nat.reduceAdd, Nat.reduceBEq] at b_
      subst b_
      clear hr30_
      have hll30_ := Le.refl L28_
      have hhh30_ := Le.refl H28_
      refine W_region [52, 53, 54, 55, 56, 57, 58, 59, 60, 61, 62, 63, 64, 65, 66, 67, 68, 69] rfl (Ops_step (R_move rfl) rfl rfl (Ops_step (R_move rfl) rfl rfl ?_))
      refine Ops_splitB 53 rfl (fun hg31_ => ?_) (fun hg31_ => ?_)
      ·
       replace h := h.1 hg31_
       refine Ops_step (R_move rfl) rfl rfl (Ops_step (R_pick_true rfl rfl) rfl rfl (Ops_step (R_move rfl) rfl rfl ?_))
       refine Ops_splitB 56 rfl (fun hg32_ => ?_) (fun hg32_ => ?_)
       ·
        replace h := h.1 hg32_
        refine Ops_step (R_move rfl) rfl rfl (Ops_step (R_move rfl) rfl rfl (Ops_step (R_len Try.underlying41 rfl rfl) rfl rfl (Ops_step (R_eql rfl rfl) rfl rfl (Ops_step (R_pick_true rfl rfl) rfl rfl ?_))))
        refine Ops_step (R_move rfl) rfl rfl ?_
        refine Ops_split 62 rfl (fun hg33_ => ?_) (fun hg33_ => ?_)
        ·
         replace h := h.1 hg33_
         refine Ops_step (R_move rfl) rfl rfl ?_
         refine Ops_step (R_loadB (v := .pointer (some ⟨b4_, 0, none⟩)) ag26 rfl ht5_.blk rfl) rfl rfl ?_
         refine Ops_step (R_nilCheck rfl) rfl rfl (Ops_step (R_fieldAddr fo46_2 rfl) rfl rfl ?_)
         refine Ops_step (R_loadB (v := vi yb4__12.gen_) ag3 rfl htb4__12.blk rfl) rfl rfl ?_
         refine Ops_step (R_gtr rfl rfl) rfl rfl (Ops_step (R_pick_true rfl rfl) rfl rfl ?_)
         refine Ops_nil ?_
         refine then_n ?_
         exact ⟨_, rfl, ⟨(decide (r27_0 > yb4__12.gen_)), _, _, rfl, h, hI, hll30_, hhh30_, htd0, ht3_, ht5_, htb4__12, htb9__12, trivial⟩, ⟨rfl, rfl, rfl, rfl, rfl, rfl, trivial⟩⟩
        ·
         replace h := h.2 hg33_
         refine Ops_pass rfl rfl (Ops_pass rfl rfl (Ops_pass rfl rfl (Ops_pass rfl rfl (Ops_pass rfl rfl ?_))))
         refine Ops_pass rfl rfl (Ops_step (R_pick_false rfl rfl) rfl rfl ?_)
         refine Ops_nil ?_
         refine then_n ?_
         exact ⟨_, rfl, ⟨false, _, _, rfl, h, hI, hll30_, hhh30_, htd0, ht3_, ht5_, htb4__12, htb9__12, trivial⟩, ⟨rfl, rfl, rfl, rfl, rfl, rfl, trivial⟩⟩
       ·
        replace h := h.2 hg32_
        refine Ops_pass rfl rfl (Ops_pass rfl rfl (Ops_pass rfl rfl (Ops_pass rfl rfl (Ops_step (R_pick_false rfl rfl) rfl rfl ?_))))
        refine Ops_step (R_move rfl) rfl rfl (Ops_pass rfl rfl (Ops_pass rfl rfl (Ops_pass rfl rfl (Ops_pass rfl rfl ?_))))
        refine Ops_pass rfl rfl (Ops_pass rfl rfl (Ops_step (R_pick_false rfl rfl) rfl rfl ?_))
        refine Ops_nil ?_
        refine then_n ?_
        exact ⟨_, rfl, ⟨false, _, _, rfl, h, hI, hll30_, hhh30_, htd0, ht3_, ht5_, htb4__12, htb9__12, trivial⟩, ⟨rfl, rfl, rfl, rfl, rfl, rfl, trivial⟩⟩
      ·
       replace h := h.2 hg31_
       refine Ops_pass rfl rfl (Ops_step (R_pick_false rfl rfl) rfl rfl (Ops_step (R_move rfl) rfl rfl (Ops_pass rfl rfl (Ops_pass rfl rfl ?_))))
       refine Ops_pass rfl rfl (Ops_pass rfl rfl (Ops_step (R_pick_false rfl rfl) rfl rfl (Ops_step (R_move rfl) rfl rfl (Ops_pass rfl rfl ?_))))
       refine Ops_pass rfl rfl (Ops_pass rfl rfl (Ops_pass rfl rfl (Ops_pass rfl rfl (Ops_pass rfl rfl ?_))))
       refine Ops_step (R_pick_false rfl rfl) rfl rfl ?_
       refine Ops_nil ?_
       refine then_n ?_
       exact ⟨_, rfl, ⟨false, _, _, rfl, h, hI, hll30_, hhh30_, htd0, ht3_, ht5_, htb4__12, htb9__12, trivial⟩, ⟨rfl, rfl, rfl, rfl, rfl, rfl, trivial⟩⟩
     ·
      simp only [e_, Nat.reduceAdd, Nat.reduceBEq] at b_
      subst b_
      clear h
      clear ht3_
      clear ht5_
      clear htb4__12
      clear htb9__12
      clear htd0
      rintro _ w30_ ⟨x69_30, L30_, H30_, rfl, hJ30_, hI30_, hll30_, hhh30_, htd0, ht3_, ht5_, htb4__12, htb9__12, -⟩
      replace hI := hI30_
      clear hI30_
      have h := hr30_ x69_30 hJ30_
      clear hr30_ hJ30_
      replace hsd0_1 := hsd0_1.up hhh30_
      replace hsd0_2 := hsd0_2.up hhh30_
      replace hsd0_3 := hsd0_3.up hhh30_
      replace hll10_ := hll10_.trans hll30_
      replace hhh10_ := hhh10_.trans hhh30_
      replace hsb4__12_1 := hsb4__12_1.up hhh30_
      replace hsb9__12_1 := hsb9__12_1.up hhh30_
      replace hll12_ := hll12_.trans hll30_
      replace hhh12_ := hhh12_.trans hhh30_
      replace hll16_ := hll16_.trans hll30_
      replace hhh16_ := hhh16_.trans hhh30_
      replace hs28_ := hs28_.up hll30_
      refine W_cond rfl (fun hc34_ => ?_) (fun hc34_ => ?_)
      ·
       replace h := h.1 hc34_
       refine W_drawF [70, 71, 72, 73, 74, 75, 76, none, 77, 78, none, none] [(0, true), (1, true), (2, true), (3, true), (4, true), (5, true), (6, true), (7, false), (8, true), (9, true), (10, false), (11, false)] TJtD.hm rfl (by kernel_rfl) fun ops35_ w35_ hops35_ hF35_ => ?_
       replace hI := hI.fr0 hF35_
       replace htd0 := htd0.fr0 hF35_
       replace ht3_ := ht3_.fr0 hF35_
       replace ht5_ := ht5_.fr0 hF35_
       replace htb4__12 := htb4__12.fr0 hF35_
       replace htb9__12 := htb9__12.fr0 hF35_
       clear hF35_
       refine HS_loadB (v := .pointer (some ⟨b4_, 0, none⟩)) ag26 rfl ht5_.blk rfl rfl rfl ?_
       refine HS_loadB (v := .pointer (some ⟨b4_, 0, none⟩)) ag26 rfl ht5_.blk rfl rfl rfl ?_
       refine HSp (R_move rfl) rfl rfl (HSp (R_move rfl) rfl rfl (HSp (R_move rfl) rfl rfl (HSp (R_nilCheck rfl) rfl rfl (HSp (R_fieldAddr fo46_2 rfl) rfl rfl ?_))))
       refine HS_to0 [1] _ rfl (by rw [hops35_]; kernel_rfl) (R_store sz3 rfl rfl htb4__12.blk (by show 3 < 5; decide) rfl) rfl ?_
       rintro _ w36_ ⟨hB36_, hF36_⟩
       replace hI := hI.tok hF36_ (out1 htb4__12.out) (new1 hge_b4_)
       replace htd0 := htd0.fr hF36_ (htd0.apart htb4__12 (by decide))
       replace ht3_ := ht3_.fr hF36_ (ht3_.neT htb4__12)
       replace ht5_ := ht5_.fr hF36_ (ht5_.apart htb4__12 (by decide))
       replace htb9__12 := htb9__12.fr hF36_ (htb9__12.apart htb4__12 (by decide))
       replace htb4__12 : Tok H30_ _ b4_ 46 ([.slice Ab4__12_1 yb4__12.book_.l_.length cb4__12_1, .map (some m3_), .pointer (some ⟨d0, 0, none⟩), vi r27_0, vi yb4__12.place_]) := ⟨hB36_, htb4__12.out⟩
       clear hF36_ hB36_
       refine ⟨⟨(ht5_.blk.at_ rfl), trivial⟩, ?_⟩
       refine HSp (R_nilCheck rfl) rfl rfl (HSp (R_fieldAddr fo46_3 rfl) rfl rfl ?_)
       refine HS_to0 [] _ rfl (by rw [hops35_]; kernel_rfl) (R_store sz3 rfl rfl htb4__12.blk (by show 4 < 5; decide) rfl) rfl ?_
       rintro _ w37_ ⟨hB37_, hF37_⟩
       replace hI := hI.tok hF37_ (out1 htb4__12.out) (new1 hge_b4_)
       replace htd0 := htd0.fr hF37_ (htd0.apart htb4__12 (by decide))
       replace ht3_ := ht3_.fr hF37_ (ht3_.neT htb4__12)
       replace ht5_ := ht5_.fr hF37_ (ht5_.apart htb4__12 (by decide))
       replace htb9__12 := htb9__12.fr hF37_ (htb9__12.apart htb4__12 (by decide))
       replace htb4__12 : Tok H30_ _ b4_ 46 ([.slice Ab4__12_1 yb4__12.book_.l_.length cb4__12_1, .map (some m3_), .pointer (some ⟨d0, 0, none⟩), vi r27_0, vi x6_12]) := ⟨hB37_, htb4__12.out⟩
       clear hF37_ hB37_
       refine ⟨trivial, ?_⟩
       refine HS_to0 [] _ rfl (by rw [hops35_]; kernel_rfl) (R_store sz41 rfl rfl htb9__12.blk (by show 0 < 1; decide) rfl) rfl ?_
       rintro _ w38_ ⟨hB38_, hF38_⟩
       replace hI := hI.tok hF38_ (out1 htb9__12.out) (new1 hge_b9_)
       replace htd0 := htd0.fr hF38_ (htd0.apart htb9__12 (by decide))
       replace ht3_ := ht3_.fr hF38_ (ht3_.neT htb9__12)
       replace ht5_ := ht5_.fr hF38_ (ht5_.apart htb9__12 (by decide))
       replace htb4__12 := htb4__12.fr hF38_ (htb4__12.apart htb9__12 (by decide))
       replace htb9__12 : Tok H30_ _ b9_ 41 ([.slice A27_2 r27_2.length c27_2]) := ⟨hB38_, htb9__12.out⟩
       clear hF38_ hB38_
       refine ⟨trivial, ?_⟩
       refine HS_nil ?_
       clear hops35_
       refine block_n ?_
       refine then_n ?_
       exact ⟨_, rfl, ⟨(journal_Journal.mk yb4__12.book_ r27_0 x6_12), Ab4__12_1, cb4__12_1, r27_2, A27_2, c27_2, _, _, rfl, h, hI, hll16_, hhh16_, htb4__12, hcb4__12_1, hsb4__12_1, htb9__12, hc28_, (hs28_.up hI.sub), htd0, ht3_, ht5_, trivial⟩, ⟨rfl, rfl, rfl, rfl, trivial⟩⟩
      ·
       replace h := h.2 hc34_
       refine W_skip ?_
       refine block_n ?_
       refine then_n ?_
       exact ⟨_, rfl, ⟨yb4__12, Ab4__12_1, cb4__12_1, yb9__12, Ab9__12_1, cb9__12_1, _, _, rfl, h, hI, hll16_, hhh16_, htb4__12, hcb4__12_1, hsb4__12_1, htb9__12, hcb9__12_1, hsb9__12_1, htd0, ht3_, ht5_, trivial⟩, ⟨rfl, rfl, rfl, rfl, trivial⟩⟩
   ·
    simp only [e_, Nat.reduceAdd, Nat.reduceBEq] at b_
    subst b_
    clear h
    clear ht3_
    clear ht5_
    clear htd0
    rintro _ w16_ ⟨yb4__16, Ab4__16_1, cb4__16_1, yb9__16, Ab9__16_1, cb9__16_1, L16_, H16_, rfl, hJ16_, hI16_, hll16_, hhh16_, htb4__16, hcb4__16_1, hsb4__16_1, htb9__16, hcb9__16_1, hsb9__16_1, htd0, ht3_, ht5_, -⟩
    replace hI := hI16_
    clear hI16_
    have h := hr16_ yb4__16 yb9__16 hJ16_
    clear hr16_ hJ16_
    replace hsd0_1 := hsd0_1.up hhh16_
    replace hsd0_2 := hsd0_2.up hhh16_
    replace hsd0_3 := hsd0_3.up hhh16_
    replace hll10_ := hll10_.trans hll16_
    replace hhh10_ := hhh10_.trans hhh16_
    replace hll12_ := hll12_.trans hll16_
    replace hhh12_ := hhh12_.trans hhh16_
    refine W_region [33, 34, 6] rfl (Ops_step (R_move rfl) rfl rfl ?_)
    have hk39_ := h.1
    replace h := h.2
    refine Ops_step (R_add rfl rfl (wI hk39_.1 hk39_.2)) rfl rfl (Ops_step (R_assign rfl) rfl rfl ?_)
    refine Ops_nil ?_
    refine then_n ?_
    exact h.elim fun m_ h => ⟨m_, _, h.1, rfl, ⟨(x6_12 + 1), yb4__16, Ab4__16_1, cb4__16_1, yb9__16, Ab9__16_1, cb9__16_1, _, _, rfl, h.2, hI, hll12_, hhh12_, htb4__16, hcb4__16_1, hsb4__16_1, htb9__16, hcb9__16_1, hsb9__16_1, htd0, ht3_, ht5_, trivial⟩, ⟨rfl, rfl, rfl, trivial⟩⟩
  ·
   replace h := h.2 hc15_
   refine W_exit ?_
   refine then_exit ?_
   clear k13 K13
   refine then_exit ?_
   refine block_exit ?_
   refine then_n ?_
   exact ⟨_, rfl, ⟨yb4__12, Ab4__12_1, cb4__12_1, yb9__12, Ab9__12_1, cb9__12_1, _, _, rfl, h, hI, hll10_, hhh10_, htb4__12, hcb4__12_1, hsb4__12_1, htb9__12, hcb9__12_1, hsb9__12_1, htd0, ht3_, ht5_, trivial⟩, ⟨rfl, rfl, rfl, trivial⟩⟩
 ·
  simp only [e_, Nat.reduceAdd, Nat.reduceBEq] at b_
  subst b_
  clear h
  clear ht3_
  clear ht5_
  clear htd0
  rintro _ w10_ ⟨yb4__10, Ab4__10_1, cb4__10_1, yb9__10, Ab9__10_1, cb9__10_1, L10_, H10_, rfl, hJ10_, hI10_, hll10_, hhh10_, htb4__10, hcb4__10_1, hsb4__10_1, htb9__10, hcb9__10_1, hsb9__10_1, htd0, ht3_, ht5_, -⟩
  replace hI := hI10_
  clear hI10_
  have h := hr10_ yb4__10 yb9__10 hJ10_
  clear hr10_ hJ10_
  replace hsd0_1 := hsd0_1.up hhh10_
  replace hsd0_2 := hsd0_2.up hhh10_
  replace hsd0_3 := hsd0_3.up hhh10_
  refine ex_ h fun J40_ hr40_ h => ?_
  refine W_seq_join [0, 4, 5] [] (fun vals_ w2 => ∃ (yb4__40 : journal_Journal) (Ab4__40_1 : Option Addr) (cb4__40_1 : Nat) (ym3__40 : List (Int × Int)) (L H : Gh), vals_ = [] ∧ J40_ yb4__40 ym3__40 ∧ Inv [d0] G w L H w2 ∧ Le L10_ L ∧ Le H10_ H ∧ Tok H w2 b4_ 46 ([.slice Ab4__40_1 yb4__40.book_.l_.length cb4__40_1, .map (some m3_), .pointer (some ⟨d0, 0, none⟩), vi yb4__40.gen_, vi yb4__40.place_]) ∧ yb4__40.book_.l_.length ≤ cb4__40_1 ∧ Sl H Ab4__40_1 yb4__40.book_.l_ ∧ MTok H H w2 m3_ ym3__40 ∧ Tok H w2 d0 53 ([.slice Ad0_1 z0.files_.e0_.length cd0_1, .slice Ad0_2 z0.files_.e1_.length cd0_2, .slice Ad0_3 z0.files_.e2_.length cd0_3, vi z0.room_, .bool z0.off_, .bool z0.armed_, vi z0.left_]) ∧ Tok H w2 b5_ 26 ([.pointer (some ⟨b4_, 0, none⟩)]) ∧ Tok H w2 b9_ 41 ([.slice Ab9__10_1 yb9__10.length cb9__10_1]) ∧ True) (fun B_ b_ => ?_) (fun B_ b_ => ?_)
  ·
   simp only [e_, Nat.reduceAdd, Nat.reduceBEq] at b_
   subst b_
   clear hr40_
   have hll40_ := Le.refl L10_
   have hhh40_ := Le.refl H10_
   refine W_seq_k fun K41 k41 => ?_
   refine W_region [79, 80, 81] rfl ?_
   refine Ops_step (R_loadB (v := .slice Ab9__10_1 yb9__10.length cb9__10_1) ag41 rfl htb9__10.blk rfl) rfl rfl ?_
   refine Ops_step (R_len Try.underlying41 rfl rfl) rfl rfl (Ops_step (R_move rfl) rfl rfl ?_)
   refine Ops_nil ?_
   refine then_n (k41 _ _ ?_)
   clear k41 K41
   refine W_block ?_
   refine Exists.elim h fun I42_ h => Exists.elim h fun n42_ h => ?_
   have h0_ := h.1
   have hs42_ := h.2
   clear h
   refine W_loopB [0, 4, 5, 79, 80] [81] (fun m vals_ w2 => ∃ (x81_42 : Int) (yb4__42 : journal_Journal) (Ab4__42_1 : Option Addr) (cb4__42_1 : Nat) (ym3__42 : List (Int × Int)) (L H : Gh), vals_ = [vi x81_42] ∧ I42_ m x81_42 yb4__42 ym3__42 ∧ Inv [d0] G w L H w2 ∧ Le L10_ L ∧ Le H10_ H ∧ Tok H w2 b4_ 46 ([.slice Ab4__42_1 yb4__42.book_.l_.length cb4__42_1, .map (some m3_), .pointer (some ⟨d0, 0, none⟩), vi yb4__42.gen_, vi yb4__42.place_]) ∧ yb4__42.book_.l_.length ≤ cb4__42_1 ∧ Sl H Ab4__42_1 yb4__42.book_.l_ ∧ MTok H H w2 m3_ ym3__42 ∧ Tok H w2 d0 53 ([.slice Ad0_1 z0.files_.e0_.length cd0_1, .slice Ad0_2 z0.files_.e1_.length cd0_2, .slice Ad0_3 z0.files_.e2_.length cd0_3, vi z0.room_, .bool z0.off_, .bool z0.armed_, vi z0.left_]) ∧ Tok H w2 b5_ 26 ([.pointer (some ⟨b4_, 0, none⟩)]) ∧ Tok H w2 b9_ 41 ([.slice Ab9__10_1 yb9__10.length cb9__10_1]) ∧ True) n42_ _ rfl ⟨0, yb4__10, Ab4__10_1, cb4__10_1, ([] : List (Int × Int)), _, _, rfl, h0_, hI, Le.refl _, Le.refl _, htb4__10, hcb4__10_1, hsb4__10_1, ht3_, htd0, ht5_, htb9__10, trivial⟩ fun B_ b_ => ?_
   clear h0_
   simp only [e_, Nat.reduceAdd, Nat.reduceBEq] at b_
   subst b_
   clear ht5_
   clear htb9__10
   clear htd0
   rintro m42_ _ w42_ ⟨x81_42, yb4__42, Ab4__42_1, cb4__42_1, ym3__42, L42_, H42_, rfl, hJ42_, hI42_, hll42_, hhh42_, htb4__42, hcb4__42_1, hsb4__42_1, htm3__42, htd0, ht5_, htb9__10, -⟩
   replace hI := hI42_
   clear hI42_
   have h := hs42_ m42_ x81_42 yb4__42 ym3__42 hJ42_
   clear hs42_ hJ42_
   replace hsd0_1 := hsd0_1.up hhh42_
   replace hsd0_2 := hsd0_2.up hhh42_
   replace hsd0_3 := hsd0_3.up hhh42_
   replace hsb9__10_1 := hsb9__10_1.up hhh42_
   replace hll40_ := hll40_.trans hll42_
   replace hhh40_ := hhh40_.trans hhh42_
   refine W_seq_k fun K43 k43 => ?_
   refine W_region [82] rfl (Ops_step (R_lss rfl rfl) rfl rfl ?_)
   refine Ops_nil ?_
   refine then_n (k43 _ _ ?_)
   clear k43 K43
   refine W_seq_k fun K44 k44 => ?_
   refine W_if rfl (fun hc45_ => ?_) (fun hc45_ => ?_)
   ·
    replace h := h.1 hc45_
    refine W_skip ?_
    refine then_n (k44 _ _ ?_)
    clear k44 K44
    refine W_seq_k fun K46 k46 => ?_
    refine W_block ?_
    refine W_seq_k fun K47 k47 => ?_
    refine W_region [83, 84, 15, none] rfl ?_
    refine ex_ h fun x48_ hx48_ h => ?_
    have ha48_ := (Sl.atN (n := 2) rfl (by decide) hsb9__10_1 hx48_).1
    refine Exists.elim (Sl.atN (n := 2) rfl (by decide) hsb9__10_1 hx48_).2 fun l48_ hA48_ => ?_
    have hr48_ := hA48_.1
    have hg48_ := hA48_.2
    clear hA48_
    refine Ops_step (R_indexSl Try.underlying41 sz85 rfl rfl hx48_.1 hx48_.lt ha48_) rfl rfl ?_
    obtain ⟨A48_1, c48_1, rfl, ⟨hc48_1, hs48_1⟩⟩ := hr48_
    refine Ops_step (R_loadCs (cs := [vi x48_.label_, .slice A48_1 x48_.data_.length c48_1]) ag85 sz85 rfl (fun j_ v_ hv_ => hI.st _ _ (hg48_ j_ v_ hv_))) rfl rfl ?_
    have hI0_ := hI
    refine Ops_to (R_alloc zr85) rfl rfl ?_
    rintro _ w49_ ⟨b49_, rfl, hb49_, hB49_, hF49_⟩
    replace hI := hI.fr0 hF49_
    replace htd0 := htd0.fr0 hF49_
    replace ht5_ := ht5_.fr0 hF49_
    replace htb9__10 := htb9__10.fr0 hF49_
    replace htb4__42 := htb4__42.fr0 hF49_
    replace htm3__42 := htm3__42.fr0 hF49_
    have ht49_ : Tok H42_ _ b49_ 85 ([vi 0, .slice none 0 0]) := ⟨hB49_.to rfl, Out.ge hI0_.st (Nat.le_of_eq hb49_.symm)⟩
    have hge_b49_ : w.heap.size ≤ b49_ := hb49_ ▸ hI0_.size
    clear hB49_ hb49_ hI0_ hF49_
    refine Ops_to0 (R_storeN sz85 rfl rfl rfl ht49_.blk (Nat.le_of_ble_eq_true rfl) rfl) rfl ?_
    rintro _ w50_ ⟨hB50_, hF50_⟩
    replace hI := hI.tok hF50_ (out1 ht49_.out) (new1 hge_b49_)
    replace htd0 := htd0.fr hF50_ (htd0.apart ht49_ (by decide))
    replace ht5_ := ht5_.fr hF50_ (ht5_.apart ht49_ (by decide))
    replace htb9__10 := htb9__10.fr hF50_ (htb9__10.apart ht49_ (by decide))
    replace htb4__42 := htb4__42.fr hF50_ (htb4__42.apart ht49_ (by decide))
    replace htm3__42 := htm3__42.fr hF50_ (htm3__42.neT ht49_)
    replace ht49_ : Tok H42_ _ b49_ 85 ([vi x48_.label_, .slice A48_1 x48_.data_.length c48_1]) := ⟨hB50_, ht49_.out⟩
    clear hF50_ hB50_
    refine Ops_nil ?_
    refine then_n (k47 _ _ ?_)
    clear k47 K47
    refine W_drawF [85, 86, 87, 88, 89] [(0, true), (1, true), (2, true), (3, true), (4, false)] TJtD.hm rfl (by kernel_rfl) fun ops51_ w51_ hops51_ hF51_ => ?_
    replace hI := hI.fr0 hF51_
    replace htd0 := htd0.fr0 hF51_
    replace ht5_ := ht5_.fr0 hF51_
    replace htb9__10 := htb9__10.fr0 hF51_
    replace htb4__42 := htb4__42.fr0 hF51_
    replace htm3__42 := htm3__42.fr0 hF51_
    replace ht49_ := ht49_.fr0 hF51_
    clear hF51_
    refine HS_loadB (v := .pointer (some ⟨b4_, 0, none⟩)) ag26 rfl ht5_.blk rfl rfl rfl ?_
    refine HSp (R_nilCheck rfl) rfl rfl (HSp (R_fieldAddr fo46_0 rfl) rfl rfl ?_)
    refine HS_loadN ag85 sz85 rfl ht49_.blk (Nat.le_of_ble_eq_true rfl) rfl rfl ?_
    refine HS_call [] _ rfl (by rw [hops51_]; kernel_rfl) (C_func bd43 rfl) rfl rfl ?_
    refine (journal_book_add_ok (x1 := x48_) (z0 := yb4__42) (z1 := ym3__42) (z2 := z0) hI.st (hg.up hI.le) htm3__42 htd0 hcd0_1 hsd0_1 hcd0_2 hsd0_2 hcd0_3 hsd0_3 htb4__42 hcb4__42_1 hsb4__42_1 ⟨A48_1, c48_1, rfl, ⟨hc48_1, hs48_1⟩⟩ h).mono ?_
    rintro _ w52_ ⟨y52_o0, A52_o0_1, c52_o0_1, y52_o1, L52_, H52_, rfl, hI52_, ht52_o0, hc52_o0_1, hs52_o0_1, ht52_o1, h⟩
    refine Exists.elim (hI.call hI52_ (memG hge_b4_ (memG hge_m3_ memN))) fun L520_ h52_ => ?_
    have hz52_ := hI.size
    replace hI := h52_.1
    have u52_ := h52_.2.1
    have hl52_ := h52_.2.2
    clear h52_
    replace hsd0_1 := hsd0_1.up u52_.hh
    replace hsd0_2 := hsd0_2.up u52_.hh
    replace hsd0_3 := hsd0_3.up u52_.hh
    replace hsb9__10_1 := hsb9__10_1.up u52_.hh
    replace hll40_ := hll40_.trans u52_.ll
    replace hhh40_ := hhh40_.trans u52_.hh
    replace htd0 := htd0.up u52_ (niA (htd0.apart htb4__42 (by decide)) (niA (htd0.neM htm3__42) List.not_mem_nil))
    replace ht5_ := ht5_.up u52_ (niA (ht5_.apart htb4__42 (by decide)) (niA (ht5_.neM htm3__42) List.not_mem_nil))
    replace htb9__10 := htb9__10.up u52_ (niA (htb9__10.apart htb4__42 (by decide)) (niA (htb9__10.neM htm3__42) List.not_mem_nil))
    replace hsb4__42_1 := hsb4__42_1.up u52_.hh
    replace hll42_ := hll42_.trans u52_.ll
    replace hhh42_ := hhh42_.trans u52_.hh
    replace ht49_ := ht49_.up u52_ (niA (ht49_.apart htb4__42 (by decide)) (niA (ht49_.neM htm3__42) List.not_mem_nil))
    clear htb4__42
    clear htm3__42
    clear hI52_ u52_ hl52_
    refine ⟨_, rfl, trivial, ?_⟩
    refine HS_nil ?_
    clear hops51_
    refine block_n ?_
    refine then_n (k46 _ _ ?_)
    clear k46 K46
    refine W_keepB [0, 4, 5, 79, 80, 81] fun B_ b_ => ?_
    simp only [e_, Nat.reduceAdd, Nat.reduceBEq] at b_
    subst b_
    refine W_region [90, 81] rfl ?_
    have hk54_ := h.1
    replace h := h.2
    refine Ops_step (R_add rfl rfl (wI hk54_.1 hk54_.2)) rfl rfl (Ops_step (R_move rfl) rfl rfl ?_)
    refine Ops_nil ?_
    refine then_n ?_
    exact h.elim fun m_ h => ⟨m_, _, h.1, rfl, ⟨(x81_42 + 1), y52_o0, A52_o0_1, c52_o0_1, y52_o1, _, _, rfl, h.2, hI, hll42_, hhh42_, ht52_o0, hc52_o0_1, hs52_o0_1, ht52_o1, htd0, ht5_, htb9__10, trivial⟩, ⟨rfl, rfl, rfl, rfl, rfl, trivial⟩⟩
   ·
    replace h := h.2 hc45_
    refine W_exit ?_
    refine then_exit ?_
    clear k44 K44
    refine then_exit ?_
    refine block_exit ?_
    refine then_n ?_
    exact ⟨_, rfl, ⟨yb4__42, Ab4__42_1, cb4__42_1, ym3__42, _, _, rfl, h, hI, hll40_, hhh40_, htb4__42, hcb4__42_1, hsb4__42_1, htm3__42, htd0, ht5_, htb9__10, trivial⟩, ⟨rfl, rfl, rfl, trivial⟩⟩
  ·
   simp only [e_, Nat.reduceAdd, Nat.reduceBEq] at b_
   subst b_
   clear h
   clear ht5_
   clear htb9__10
   clear htd0
   rintro _ w40_ ⟨yb4__40, Ab4__40_1, cb4__40_1, ym3__40, L40_, H40_, rfl, hJ40_, hI40_, hll40_, hhh40_, htb4__40, hcb4__40_1, hsb4__40_1, htm3__40, htd0, ht5_, htb9__10, -⟩
   replace hI := hI40_
   clear hI40_
   have h := hr40_ yb4__40 ym3__40 hJ40_
   clear hr40_ hJ40_
   replace hsd0_1 := hsd0_1.up hhh40_
   replace hsd0_2 := hsd0_2.up hhh40_
   replace hsd0_3 := hsd0_3.up hhh40_
   replace hsb9__10_1 := hsb9__10_1.up hhh40_
   refine W_seq_k fun K55 k55 => ?_
   refine W_region [92, 93, 91, 94, 95, 16, 17] rfl (Ops_step (R_move rfl) rfl rfl ?_)
   refine Ops_call (C_func bd44 rfl) rfl rfl ?_
   refine (disk_Disk_Read_ok (x1 := 0) (z0 := z0) hI.st (hg.up hI.le) htd0 hcd0_1 hsd0_1 hcd0_2 hsd0_2 hcd0_3 hsd0_3 h).mono ?_
   rintro _ w56_ ⟨A56_0, c56_0, r56_0, r56_1, L56_, H56_, rfl, hI56_, ho56_0, h⟩
   refine Exists.elim (hI.call hI56_ (by simp)) fun L560_ h56_ => ?_
   have hz56_ := hI.size
   replace hI := h56_.1
   have u56_ := h56_.2.1
   have hl56_ := h56_.2.2
   clear h56_
   replace hsd0_1 := hsd0_1.up u56_.hh
   replace hsd0_2 := hsd0_2.up u56_.hh
   replace hsd0_3 := hsd0_3.up u56_.hh
   replace hsb9__10_1 := hsb9__10_1.up u56_.hh
   replace htd0 := htd0.up u56_ (by simp)
   replace ht5_ := ht5_.up u56_ (by simp)
   replace htb9__10 := htb9__10.up u56_ (by simp)
   replace htb4__40 := htb4__40.up u56_ (by simp)
   replace hsb4__40_1 := hsb4__40_1.up u56_.hh
   replace htm3__40 := htm3__40.up u56_.hh u56_ (by simp)
   replace ho56_0 := OwnS.backS ho56_0 hz56_ (Le.refl _)
   clear hI56_ u56_ hl56_
   refine ⟨_, rfl, ?_⟩
   refine Exists.elim (ho56_0.freeze hI) fun L57_ h57_ => Exists.elim h57_ fun H57_ h57_ => ?_
   replace hI := h57_.1
   have u57_ := h57_.2.1
   have hs57_ := h57_.2.2.1 (Le.no _)
   have hc57_ := ho56_0.cap
   replace hsd0_1 := hsd0_1.up u57_.hh
   replace hsd0_2 := hsd0_2.up u57_.hh
   replace hsd0_3 := hsd0_3.up u57_.hh
   replace hsb9__10_1 := hsb9__10_1.up u57_.hh
   replace htd0 := htd0.up u57_ (ho56_0.old hlt_d0)
   replace ht5_ := ht5_.up u57_ (ht5_.sep ho56_0 (by decide))
   replace htb9__10 := htb9__10.up u57_ (htb9__10.sep ho56_0 (by decide))
   replace htb4__40 := htb4__40.up u57_ (htb4__40.sep ho56_0 (by decide))
   replace hsb4__40_1 := hsb4__40_1.up u57_.hh
   replace htm3__40 := htm3__40.up u57_.hh u57_ (htm3__40.neO ho56_0)
   clear h57_ u57_ ho56_0
   refine Ops_step (R_move rfl) rfl rfl ?_
   refine Ops_step (R_extract (v := .slice A56_0 r56_0.length c56_0) rfl rfl) rfl rfl ?_
   refine Ops_step (R_extract (v := vi r56_1) rfl rfl) rfl rfl ?_
   refine Ops_step (R_assign rfl) rfl rfl (Ops_step (R_assign rfl) rfl rfl ?_)
   refine Ops_nil ?_
   refine then_n (k55 _ _ ?_)
   clear k55 K55
   refine W_keepB [4, 5, 16, 17] fun B_ b_ => ?_
   simp only [e_, Nat.reduceAdd, Nat.reduceBEq] at b_
   subst b_
   refine W_seq_k fun K59 k59 => ?_
   refine W_seq_k fun K60 k60 => ?_
   refine W_region [96, 97] rfl (Ops_step (R_move rfl) rfl rfl (Ops_step (R_neq rfl rfl) rfl rfl ?_))
   refine Ops_nil ?_
   refine then_n (k60 _ _ ?_)
   clear k60 K60
   refine W_if rfl (fun hc61_ => ?_) (fun hc61_ => ?_)
   ·
    replace h := h.1 hc61_
    refine W_seq_k fun K62 k62 => ?_
    refine W_region [98, 2, 3] rfl (Ops_step (R_move rfl) rfl rfl (Ops_step (R_assign rfl) rfl rfl (Ops_step (R_assign rfl) rfl rfl ?_)))
    refine Ops_nil ?_
    refine then_n (k62 _ _ ?_)
    clear k62 K62
    refine W_keepB [2, 3] fun B_ b_ => ?_
    simp only [e_, Nat.reduceAdd, Nat.reduceBEq] at b_
    subst b_
    refine W_ret ?_
    refine then_ret ?_
    clear k59 K59
    refine ⟨_, ⟨_, _, rfl, rfl, ⟨_, _, rfl, rfl, rfl⟩⟩, ?_⟩
    exact .inl ⟨r56_1, z0, Ad0_1, cd0_1, Ad0_2, cd0_2, Ad0_3, cd0_3, _, _, rfl, hI, htd0, hcd0_1, hsd0_1, hcd0_2, hsd0_2, hcd0_3, hsd0_3, h⟩
   ·
    replace h := h.2 hc61_
    refine W_skip ?_
    refine then_n (k59 _ _ ?_)
    clear k59 K59
    refine W_seq_k fun K64 k64 => ?_
    refine W_region [100, 101, 102, 99, 103, 104, 105, 106, 107, 18, 19, 20, 21, 22] rfl (Ops_step (R_move rfl) rfl rfl (Ops_step (R_makeFunc2 rfl rfl) rfl rfl ?_))
    refine Ops_call (C_func bd45 rfl) rfl rfl ?_
    refine (journal_opened_v1_ok (x0 := r56_0) (z0 := yb9__10) (z1 := ()) (z2 := yb4__40) (z3 := ym3__40) (z4 := z0) hI.st (hg.up hI.le) hc57_ (hs57_.up hI.sub) htb9__10 hcb9__10_1 hsb9__10_1 htm3__40 htd0 hcd0_1 hsd0_1 hcd0_2 hsd0_2 hcd0_3 hsd0_3 htb4__40 hcb4__40_1 hsb4__40_1 ht5_ h).mono ?_
    rintro _ w65_ ⟨r65_0, r65_1, A65_2, c65_2, r65_2, r65_3, r65_4, L65_, H65_, rfl, hI65_, ho65_2, h⟩
    refine Exists.elim (hI.call hI65_ (by simp)) fun L650_ h65_ => ?_
    have hz65_ := hI.size
    replace hI := h65_.1
    have u65_ := h65_.2.1
    have hl65_ := h65_.2.2
    clear h65_
    replace hsd0_1 := hsd0_1.up u65_.hh
    replace hsd0_2 := hsd0_2.up u65_.hh
    replace hsd0_3 := hsd0_3.up u65_.hh
    replace hsb9__10_1 := hsb9__10_1.up u65_.hh
    replace htd0 := htd0.up u65_ (by simp)
    replace ht5_ := ht5_.up u65_ (by simp)
    replace htb9__10 := htb9__10.up u65_ (by simp)
    replace htb4__40 := htb4__40.up u65_ (by simp)
    replace hsb4__40_1 := hsb4__40_1.up u65_.hh
    replace htm3__40 := htm3__40.up u65_.hh u65_ (by simp)
    replace ho65_2 := OwnS.back ho65_2 hz65_ hl65_ (Le.refl _)
    clear hI65_ u65_ hl65_
    refine ⟨_, rfl, ?_⟩
    refine Exists.elim (ho65_2.freeze hI) fun L66_ h66_ => Exists.elim h66_ fun H66_ h66_ => ?_
    replace hI := h66_.1
    have u66_ := h66_.2.1
    have hs66_ := h66_.2.2.1 (Le.refl _)
    have hc66_ := ho65_2.cap
    replace hsd0_1 := hsd0_1.up u66_.hh
    replace hsd0_2 := hsd0_2.up u66_.hh
    replace hsd0_3 := hsd0_3.up u66_.hh
    replace htd0 := htd0.up u66_ (ho65_2.old hlt_d0)
    replace ht5_ := ht5_.up u66_ (ht5_.sep ho65_2 (by decide))
    replace htb4__40 := htb4__40.up u66_ (htb4__40.sep ho65_2 (by decide))
    replace hsb4__40_1 := hsb4__40_1.up u66_.hh
    replace htm3__40 := htm3__40.up u66_.hh u66_ (htm3__40.neO ho65_2)
    clear h66_ u66_ ho65_2
    refine Ops_step (R_move rfl) rfl rfl ?_
    refine Ops_step (R_extract (v := vi r65_0) rfl rfl) rfl rfl ?_
    refine Ops_step (R_extract (v := vi r65_1) rfl rfl) rfl rfl ?_
    refine Ops_step (R_extract (v := .slice A65_2 r65_2.length c65_2) rfl rfl) rfl rfl ?_
    refine Ops_step (R_extract (v := .bool r65_3) rfl rfl) rfl rfl ?_
    refine Ops_step (R_extract (v := .bool r65_4) rfl rfl) rfl rfl ?_
    refine Ops_step (R_assign rfl) rfl rfl (Ops_step (R_assign rfl) rfl rfl (Ops_step (R_assign rfl) rfl rfl (Ops_step (R_assign rfl) rfl rfl (Ops_step (R_assign rfl) rfl rfl ?_))))
    refine Ops_nil ?_
    refine then_n (k64 _ _ ?_)
    clear k64 K64
    refine W_keepB [4, 20, 21, 22] fun B_ b_ => ?_
    simp only [e_, Nat.reduceAdd, Nat.reduceBEq] at b_
    subst b_
    refine ex_ h fun J68_ hr68_ h => ?_
    refine W_seq_join [4, 21, 22] [] (fun vals_ w2 => ∃ (yb4__68 : journal_Journal) (Ab4__68_1 : Option Addr) (cb4__68_1 : Nat) (ym3__68 : List (Int × Int)) (L H : Gh), vals_ = [] ∧ J68_ yb4__68 ym3__68 ∧ Inv [d0] G w L H w2 ∧ Le L66_ L ∧ Le H66_ H ∧ Tok H w2 b4_ 46 ([.slice Ab4__68_1 yb4__68.book_.l_.length cb4__68_1, .map (some m3_), .pointer (some ⟨d0, 0, none⟩), vi yb4__68.gen_, vi yb4__68.place_]) ∧ yb4__68.book_.l_.length ≤ cb4__68_1 ∧ Sl H Ab4__68_1 yb4__68.book_.l_ ∧ MTok H H w2 m3_ ym3__68 ∧ Tok H w2 d0 53 ([.slice Ad0_1 z0.files_.e0_.length cd0_1, .slice Ad0_2 z0.files_.e1_.length cd0_2, .slice Ad0_3 z0.files_.e2_.length cd0_3, vi z0.room_, .bool z0.off_, .bool z0.armed_, vi z0.left_]) ∧ Tok H w2 b5_ 26 ([.pointer (some ⟨b4_, 0, none⟩)]) ∧ True) (fun B_ b_ => ?_) (fun B_ b_ => ?_)
    ·
     simp only [e_, Nat.reduceAdd, Nat.reduceBEq] at b_
     subst b_
     clear hr68_
     have hll68_ := Le.refl L66_
     have hhh68_ := Le.refl H66_
     refine W_seq_k fun K69 k69 => ?_
     refine W_region [108] rfl (Ops_step (R_move rfl) rfl rfl ?_)
     refine Ops_nil ?_
     refine then_n (k69 _ _ ?_)
     clear k69 K69
     refine W_cond rfl (fun hc70_ => ?_) (fun hc70_ => ?_)
     ·
      replace h := h.1 hc70_
      refine W_seq_k fun K71 k71 => ?_
      refine W_region [109, 110, 111] rfl (Ops_step (R_move rfl) rfl rfl (Ops_step (R_len Try.underlying41 rfl rfl) rfl rfl (Ops_step (R_move rfl) rfl rfl ?_)))
      refine Ops_nil ?_
      refine then_n (k71 _ _ ?_)
      clear k71 K71
      refine W_block ?_
      refine Exists.elim h fun I72_ h => Exists.elim h fun n72_ h => ?_
      have h0_ := h.1
      have hs72_ := h.2
      clear h
      refine W_loopB [4, 21, 22, 109, 110] [111] (fun m vals_ w2 => ∃ (x111_72 : Int) (yb4__72 : journal_Journal) (Ab4__72_1 : Option Addr) (cb4__72_1 : Nat) (ym3__72 : List (Int × Int)) (L H : Gh), vals_ = [vi x111_72] ∧ I72_ m x111_72 yb4__72 ym3__72 ∧ Inv [d0] G w L H w2 ∧ Le L66_ L ∧ Le H66_ H ∧ Tok H w2 b4_ 46 ([.slice Ab4__72_1 yb4__72.book_.l_.length cb4__72_1, .map (some m3_), .pointer (some ⟨d0, 0, none⟩), vi yb4__72.gen_, vi yb4__72.place_]) ∧ yb4__72.book_.l_.length ≤ cb4__72_1 ∧ Sl H Ab4__72_1 yb4__72.book_.l_ ∧ MTok H H w2 m3_ ym3__72 ∧ Tok H w2 d0 53 ([.slice Ad0_1 z0.files_.e0_.length cd0_1, .slice Ad0_2 z0.files_.e1_.length cd0_2, .slice Ad0_3 z0.files_.e2_.length cd0_3, vi z0.room_, .bool z0.off_, .bool z0.armed_, vi z0.left_]) ∧ Tok H w2 b5_ 26 ([.pointer (some ⟨b4_, 0, none⟩)]) ∧ True) n72_ _ rfl ⟨0, yb4__40, Ab4__40_1, cb4__40_1, ym3__40, _, _, rfl, h0_, hI, Le.refl _, Le.refl _, htb4__40, hcb4__40_1, hsb4__40_1, htm3__40, htd0, ht5_, trivial⟩ fun B_ b_ => ?_
      clear h0_
      simp only [e_, Nat.reduceAdd, Nat.reduceBEq] at b_
      subst b_
      clear ht5_
      clear htd0
      rintro m72_ _ w72_ ⟨x111_72, yb4__72, Ab4__72_1, cb4__72_1, ym3__72, L72_, H72_, rfl, hJ72_, hI72_, hll72_, hhh72_, htb4__72, hcb4__72_1, hsb4__72_1, htm3__72, htd0, ht5_, -⟩
      replace hI := hI72_
      clear hI72_
      have h := hs72_ m72_ x111_72 yb4__72 ym3__72 hJ72_
      clear hs72_ hJ72_
      replace hsd0_1 := hsd0_1.up hhh72_
      replace hsd0_2 := hsd0_2.up hhh72_
      replace hsd0_3 := hsd0_3.up hhh72_
      replace hs66_ := hs66_.up hll72_
      replace hll68_ := hll68_.trans hll72_
      replace hhh68_ := hhh68_.trans hhh72_
      refine W_seq_k fun K73 k73 => ?_
      refine W_region [112] rfl (Ops_step (R_lss rfl rfl) rfl rfl ?_)
      refine Ops_nil ?_
      refine then_n (k73 _ _ ?_)
      clear k73 K73
      refine W_seq_k fun K74 k74 => ?_
      refine W_if rfl (fun hc75_ => ?_) (fun hc75_ => ?_)
      ·
       replace h := h.1 hc75_
       refine W_skip ?_
       refine then_n (k74 _ _ ?_)
       clear k74 K74
       refine W_seq_k fun K76 k76 => ?_
       refine W_block ?_
       refine W_seq_k fun K77 k77 => ?_
       refine W_region [113, 114, 24, none] rfl ?_
       refine ex_ h fun x78_ hx78_ h => ?_
       have ha78_ := (Sl.atN (n := 2) rfl (by decide) (hs66_.up hI.sub) hx78_).1
       refine Exists.elim (Sl.atN (n := 2) rfl (by decide) (hs66_.up hI.sub) hx78_).2 fun l78_ hA78_ => ?_
       have hr78_ := hA78_.1
       have hg78_ := hA78_.2
       clear hA78_
       refine Ops_step (R_indexSl Try.underlying41 sz85 rfl rfl hx78_.1 hx78_.lt ha78_) rfl rfl ?_
       obtain ⟨A78_1, c78_1, rfl, ⟨hc78_1, hs78_1⟩⟩ := hr78_
       refine Ops_step (R_loadCs (cs := [vi x78_.label_, .slice A78_1 x78_.data_.length c78_1]) ag85 sz85 rfl (fun j_ v_ hv_ => hI.st _ _ (hg78_ j_ v_ hv_))) rfl rfl ?_
       have hI0_ := hI
       refine Ops_to (R_alloc zr85) rfl rfl ?_
       rintro _ w79_ ⟨b79_, rfl, hb79_, hB79_, hF79_⟩
       replace hI := hI.fr0 hF79_
       replace htd0 := htd0.fr0 hF79_
       replace ht5_ := ht5_.fr0 hF79_
       replace htb4__72 := htb4__72.fr0 hF79_
       replace htm3__72 := htm3__72.fr0 hF79_
       have ht79_ : Tok H72_ _ b79_ 85 ([vi 0, .slice none 0 0]) := ⟨hB79_.to rfl, Out.ge hI0_.st (Nat.le_of_eq hb79_.symm)⟩
       have hge_b79_ : w.heap.size ≤ b79_ := hb79_ ▸ hI0_.size
       clear hB79_ hb79_ hI0_ hF79_
       refine Ops_to0 (R_storeN sz85 rfl rfl rfl ht79_.blk (Nat.le_of_ble_eq_true rfl) rfl) rfl ?_
       rintro _ w80_ ⟨hB80_, hF80_⟩
       replace hI := hI.tok hF80_ (out1 ht79_.out) (new1 hge_b79_)
       replace htd0 := htd0.fr hF80_ (htd0.apart ht79_ (by decide))
       replace ht5_ := ht5_.fr hF80_ (ht5_.apart ht79_ (by decide))
       replace htb4__72 := htb4__72.fr hF80_ (htb4__72.apart ht79_ (by decide))
       replace htm3__72 := htm3__72.fr hF80_ (htm3__72.neT ht79_)
       replace ht79_ : Tok H72_ _ b79_ 85 ([vi x78_.label_, .slice A78_1 x78_.data_.length c78_1]) := ⟨hB80_, ht79_.out⟩
       clear hF80_ hB80_
       refine Ops_nil ?_
       refine then_n (k77 _ _ ?_)
       clear k77 K77
       refine W_drawF [115, 116, 117, 118, 119] [(0, true), (1, true), (2, true), (3, true), (4, false)] TJtD.hm rfl (by kernel_rfl) fun ops81_ w81_ hops81_ hF81_ => ?_
       replace hI := hI.fr0 hF81_
       replace htd0 := htd0.fr0 hF81_
       replace ht5_ := ht5_.fr0 hF81_
       replace htb4__72 := htb4__72.fr0 hF81_
       replace htm3__72 := htm3__72.fr0 hF81_
       replace ht79_ := ht79_.fr0 hF81_
       clear hF81_
       refine HS_loadB (v := .pointer (some ⟨b4_, 0, none⟩)) ag26 rfl ht5_.blk rfl rfl rfl ?_
       refine HSp (R_nilCheck rfl) rfl rfl (HSp (R_fieldAddr fo46_0 rfl) rfl rfl ?_)
       refine HS_loadN ag85 sz85 rfl ht79_.blk (Nat.le_of_ble_eq_true rfl) rfl rfl ?_
       refine HS_call [] _ rfl (by rw [hops81_]; kernel_rfl) (C_func bd43 rfl) rfl rfl ?_
       refine (journal_book_add_ok (x1 := x78_) (z0 := yb4__72) (z1 := ym3__72) (z2 := z0) hI.st (hg.up hI.le) htm3__72 htd0 hcd0_1 hsd0_1 hcd0_2 hsd0_2 hcd0_3 hsd0_3 htb4__72 hcb4__72_1 hsb4__72_1 ⟨A78_1, c78_1, rfl, ⟨hc78_1, hs78_1⟩⟩ h).mono ?_
       rintro _ w82_ ⟨y82_o0, A82_o0_1, c82_o0_1, y82_o1, L82_, H82_, rfl, hI82_, ht82_o0, hc82_o0_1, hs82_o0_1, ht82_o1, h⟩
       refine Exists.elim (hI.call hI82_ (memG hge_b4_ (memG hge_m3_ memN))) fun L820_ h82_ => ?_
       have hz82_ := hI.size
       replace hI := h82_.1
       have u82_ := h82_.2.1
       have hl82_ := h82_.2.2
       clear h82_
       replace hsd0_1 := hsd0_1.up u82_.hh
       replace hsd0_2 := hsd0_2.up u82_.hh
       replace hsd0_3 := hsd0_3.up u82_.hh
       replace hs66_ := hs66_.up u82_.ll
       replace hll68_ := hll68_.trans u82_.ll
       replace hhh68_ := hhh68_.trans u82_.hh
       replace htd0 := htd0.up u82_ (niA (htd0.apart htb4__72 (by decide)) (niA (htd0.neM htm3__72) List.not_mem_nil))
       replace ht5_ := ht5_.up u82_ (niA (ht5_.apart htb4__72 (by decide)) (niA (ht5_.neM htm3__72) List.not_mem_nil))
       replace hsb4__72_1 := hsb4__72_1.up u82_.hh
       replace hll72_ := hll72_.trans u82_.ll
       replace hhh72_ := hhh72_.trans u82_.hh
       replace ht79_ := ht79_.up u82_ (niA (ht79_.apart htb4__72 (by decide)) (niA (ht79_.neM htm3__72) List.not_mem_nil))
       clear htb4__72
       clear htm3__72
       clear hI82_ u82_ hl82_
       refine ⟨_, rfl, trivial, ?_⟩
       refine HS_nil ?_
       clear hops81_
       refine block_n ?_
       refine then_n (k76 _ _ ?_)
       clear k76 K76
       refine W_keepB [4, 21, 22, 109, 110, 111] fun B_ b_ => ?_
       simp only [e_, Nat.reduceAdd, Nat.reduceBEq] at b_
       subst b_
       refine W_region [120, 111] rfl ?_
       have hk84_ := h.1
       replace h := h.2
       refine Ops_step (R_add rfl rfl (wI hk84_.1 hk84_.2)) rfl rfl (Ops_step (R_move rfl) rfl rfl ?_)
       refine Ops_nil ?_
       refine then_n ?_
       exact h.elim fun m_ h => ⟨m_, _, h.1, rfl, ⟨(x111_72 + 1), y82_o0, A82_o0_1, c82_o0_1, y82_o1, _, _, rfl, h.2, hI, hll72_, hhh72_, ht82_o0, hc82_o0_1, hs82_o0_1, ht82_o1, htd0, ht5_, trivial⟩, ⟨rfl, rfl, rfl, rfl, rfl, trivial⟩⟩
      ·
       replace h := h.2 hc75_
       refine W_exit ?_
       refine then_exit ?_
       clear k74 K74
       refine then_exit ?_
       refine block_exit ?_
       refine then_n ?_
       exact ⟨_, rfl, ⟨yb4__72, Ab4__72_1, cb4__72_1, ym3__72, _, _, rfl, h, hI, hll68_, hhh68_, htb4__72, hcb4__72_1, hsb4__72_1, htm3__72, htd0, ht5_, trivial⟩, ⟨rfl, rfl, rfl, trivial⟩⟩
     ·
      replace h := h.2 hc70_
      refine W_skip ?_
      refine then_n ?_
      exact ⟨_, rfl, ⟨yb4__40, Ab4__40_1, cb4__40_1, ym3__40, _, _, rfl, h, hI, hll68_, hhh68_, htb4__40, hcb4__40_1, hsb4__40_1, htm3__40, htd0, ht5_, trivial⟩, ⟨rfl, rfl, rfl, trivial⟩⟩
    ·
     simp only [e_, Nat.reduceAdd, Nat.reduceBEq] at b_
     subst b_
     clear h
     clear ht5_
     clear htd0
     rintro _ w68_ ⟨yb4__68, Ab4__68_1, cb4__68_1, ym3__68, L68_, H68_, rfl, hJ68_, hI68_, hll68_, hhh68_, htb4__68, hcb4__68_1, hsb4__68_1, htm3__68, htd0, ht5_, -⟩
     replace hI := hI68_
     clear hI68_
     have h := hr68_ yb4__68 ym3__68 hJ68_
     clear hr68_ hJ68_
     replace hsd0_1 := hsd0_1.up hhh68_
     replace hsd0_2 := hsd0_2.up hhh68_
     replace hsd0_3 := hsd0_3.up hhh68_
     refine ex_ h fun J85_ hr85_ h => ?_
     refine W_seq_join [4] [] (fun vals_ w2 => ∃ (yd0_85 : disk_Disk) (Ad0_85_1 : Option Addr) (cd0_85_1 : Nat) (Ad0_85_2 : Option Addr) (cd0_85_2 : Nat) (Ad0_85_3 : Option Addr) (cd0_85_3 : Nat) (yb4__85 : journal_Journal) (Ab4__85_1 : Option Addr) (cb4__85_1 : Nat) (L H : Gh), vals_ = [] ∧ J85_ yd0_85 yb4__85 ∧ Inv [d0] G w L H w2 ∧ Le L68_ L ∧ Le H68_ H ∧ Tok H w2 d0 53 ([.slice Ad0_85_1 yd0_85.files_.e0_.length cd0_85_1, .slice Ad0_85_2 yd0_85.files_.e1_.length cd0_85_2, .slice Ad0_85_3 yd0_85.files_.e2_.length cd0_85_3, vi yd0_85.room_, .bool yd0_85.off_, .bool yd0_85.armed_, vi yd0_85.left_]) ∧ yd0_85.files_.e0_.length ≤ cd0_85_1 ∧ Sl H Ad0_85_1 yd0_85.files_.e0_ ∧ yd0_85.files_.e1_.length ≤ cd0_85_2 ∧ Sl H Ad0_85_2 yd0_85.files_.e1_ ∧ yd0_85.files_.e2_.length ≤ cd0_85_3 ∧ Sl H Ad0_85_3 yd0_85.files_.e2_ ∧ Tok H w2 b4_ 46 ([.slice Ab4__85_1 yb4__85.book_.l_.length cb4__85_1, .map (some m3_), .pointer (some ⟨d0, 0, none⟩), vi yb4__85.gen_, vi yb4__85.place_]) ∧ yb4__85.book_.l_.length ≤ cb4__85_1 ∧ Sl H Ab4__85_1 yb4__85.book_.l_ ∧ Tok H w2 b5_ 26 ([.pointer (some ⟨b4_, 0, none⟩)]) ∧ MTok H H w2 m3_ ym3__68 ∧ True) (fun B_ b_ => ?_) (fun B_ b_ => ?_)
     ·
      simp only [e_, Nat.reduceAdd, Nat.reduceBEq] at b_
      subst b_
      clear hr85_
      have hll85_ := Le.refl L68_
      have hhh85_ := Le.refl H68_
      refine ex_ h fun J86_ hr86_ h => ?_
      refine W_seq_join [4] [126] (fun vals_ w2 => ∃ (x126_86 : Bool) (L H : Gh), vals_ = [.bool x126_86] ∧ J86_ x126_86 ∧ Inv [d0] G w L H w2 ∧ Le L68_ L ∧ Le H68_ H ∧ Tok H w2 d0 53 ([.slice Ad0_1 z0.files_.e0_.length cd0_1, .slice Ad0_2 z0.files_.e1_.length cd0_2, .slice Ad0_3 z0.files_.e2_.length cd0_3, vi z0.room_, .bool z0.off_, .bool z0.armed_, vi z0.left_]) ∧ Tok H w2 b5_ 26 ([.pointer (some ⟨b4_, 0, none⟩)]) ∧ Tok H w2 b4_ 46 ([.slice Ab4__68_1 yb4__68.book_.l_.length cb4__68_1, .map (some m3_), .pointer (some ⟨d0, 0, none⟩), vi yb4__68.gen_, vi yb4__68.place_]) ∧ MTok H H w2 m3_ ym3__68 ∧ True) (fun B_ b_ => ?_) (fun B_ b_ => ?_)
      ·
       simp only [e_, Nat.reduceAdd, Nat.reduceBEq] at b_
       subst b_
       clear hr86_
       have hll86_ := Le.refl L68_
       have hhh86_ := Le.refl H68_
       refine W_region [121, 122, 123, 124, 125, 126] rfl (Ops_step (R_move rfl) rfl rfl (Ops_step (R_not rfl) rfl rfl (Ops_step (R_move rfl) rfl rfl ?_)))
       refine Ops_splitB 123 rfl (fun hg87_ => ?_) (fun hg87_ => ?_)
       ·
        replace h := h.1 hg87_
        refine Ops_pass rfl rfl (Ops_pass rfl rfl (Ops_step (R_pick_true rfl rfl) rfl rfl ?_))
        refine Ops_nil ?_
        refine then_n ?_
        exact ⟨_, rfl, ⟨true, _, _, rfl, h, hI, hll86_, hhh86_, htd0, ht5_, htb4__68, htm3__68, trivial⟩, ⟨rfl, trivial⟩⟩
       ·
        replace h := h.2 hg87_
        refine Ops_step (R_move rfl) rfl rfl (Ops_step (R_not rfl) rfl rfl (Ops_step (R_pick_false rfl rfl) rfl rfl ?_))
        refine Ops_nil ?_
        refine then_n ?_
        exact ⟨_, rfl, ⟨(!r65_3), _, _, rfl, h, hI, hll86_, hhh86_, htd0, ht5_, htb4__68, htm3__68, trivial⟩, ⟨rfl, trivial⟩⟩
      ·
       simp only [e_, Nat.reduceAdd, Nat.reduceBEq] at b_
       subst b_
       clear h
       clear ht5_
       clear htb4__68
       clear htd0
       clear htm3__68
       rintro _ w86_ ⟨x126_86, L86_, H86_, rfl, hJ86_, hI86_, hll86_, hhh86_, htd0, ht5_, htb4__68, htm3__68, -⟩
       replace hI := hI86_
       clear hI86_
       have h := hr86_ x126_86 hJ86_
       clear hr86_ hJ86_
       replace hsd0_1 := hsd0_1.up hhh86_
       replace hsd0_2 := hsd0_2.up hhh86_
       replace hsd0_3 := hsd0_3.up hhh86_
       replace hsb4__68_1 := hsb4__68_1.up hhh86_
       replace hll85_ := hll85_.trans hll86_
       replace hhh85_ := hhh85_.trans hhh86_
       refine W_cond rfl (fun hc88_ => ?_) (fun hc88_ => ?_)
       ·
        replace h := h.1 hc88_
        refine W_seq_k fun K89 k89 => ?_
        refine W_region [127, 128, 25] rfl ?_
        refine Ops_step (R_loadB (v := .pointer (some ⟨b4_, 0, none⟩)) ag26 rfl ht5_.blk rfl) rfl rfl ?_
        refine Ops_call (C_func bd14 rfl) rfl rfl ?_
        refine (journal_Journal_Check_ok (z0 := yb4__68) (z1 := ym3__68) (z2 := z0) hI.st (hg.up hI.le) htm3__68 htd0 hcd0_1 hsd0_1 hcd0_2 hsd0_2 hcd0_3 hsd0_3 htb4__68 hcb4__68_1 hsb4__68_1 h).mono ?_
        rintro _ w90_ ⟨r90_0, y90_o0, A90_o0_1, c90_o0_1, y90_o2, A90_o2_1, c90_o2_1, A90_o2_2, c90_o2_2, A90_o2_3, c90_o2_3, L90_, H90_, rfl, hI90_, ht90_o0, hc90_o0_1, hs90_o0_1, ht90_o2, hc90_o2_1, hs90_o2_1, hc90_o2_2, hs90_o2_2, hc90_o2_3, hs90_o2_3, h⟩
        refine Exists.elim (hI.call hI90_ (memG hge_b4_ (memO (by simp) memN))) fun L900_ h90_ => ?_
        have hz90_ := hI.size
        replace hI := h90_.1
        have u90_ := h90_.2.1
        have hl90_ := h90_.2.2
        clear h90_
        replace hsd0_1 := hsd0_1.up u90_.hh
        replace hsd0_2 := hsd0_2.up u90_.hh
        replace hsd0_3 := hsd0_3.up u90_.hh
        replace hsb4__68_1 := hsb4__68_1.up u90_.hh
        replace hll85_ := hll85_.trans u90_.ll
        replace hhh85_ := hhh85_.trans u90_.hh
        replace ht5_ := ht5_.up u90_ (niA (ht5_.apart htb4__68 (by decide)) (niA (ht5_.apart htd0 (by decide)) List.not_mem_nil))
        replace htm3__68 := htm3__68.up u90_.hh u90_ (niA (htm3__68.neT htb4__68) (niA (htm3__68.neT htd0) List.not_mem_nil))
        clear htb4__68
        clear htd0
        clear hI90_ u90_ hl90_
        refine ⟨_, rfl, ?_⟩
        refine Ops_step (R_assign rfl) rfl rfl ?_
        refine Ops_nil ?_
        refine then_n (k89 _ _ ?_)
        clear k89 K89
        refine W_seq_k fun K91 k91 => ?_
        refine W_region [129, 130] rfl (Ops_step (R_move rfl) rfl rfl (Ops_step (R_neq rfl rfl) rfl rfl ?_))
        refine Ops_nil ?_
        refine then_n (k91 _ _ ?_)
        clear k91 K91
        refine W_if rfl (fun hc92_ => ?_) (fun hc92_ => ?_)
        ·
         replace h := h.1 hc92_
         refine W_seq_k fun K93 k93 => ?_
         refine W_region [131, 2, 3] rfl (Ops_step (R_move rfl) rfl rfl (Ops_step (R_assign rfl) rfl rfl (Ops_step (R_assign rfl) rfl rfl ?_)))
         refine Ops_nil ?_
         refine then_n (k93 _ _ ?_)
         clear k93 K93
         refine W_keepB [2, 3] fun B_ b_ => ?_
         simp only [e_, Nat.reduceAdd, Nat.reduceBEq] at b_
         subst b_
         refine W_ret ?_
         refine then_ret ?_
         refine ⟨_, ⟨_, _, rfl, rfl, ⟨_, _, rfl, rfl, rfl⟩⟩, ?_⟩
         exact .inl ⟨r90_0, y90_o2, A90_o2_1, c90_o2_1, A90_o2_2, c90_o2_2, A90_o2_3, c90_o2_3, _, _, rfl, hI, ht90_o2, hc90_o2_1, hs90_o2_1, hc90_o2_2, hs90_o2_2, hc90_o2_3, hs90_o2_3, h⟩
        ·
         replace h := h.2 hc92_
         refine W_skip ?_
         refine then_n ?_
         exact ⟨_, rfl, ⟨y90_o2, A90_o2_1, c90_o2_1, A90_o2_2, c90_o2_2, A90_o2_3, c90_o2_3, y90_o0, A90_o0_1, c90_o0_1, _, _, rfl, h, hI, hll85_, hhh85_, ht90_o2, hc90_o2_1, hs90_o2_1, hc90_o2_2, hs90_o2_2, hc90_o2_3, hs90_o2_3, ht90_o0, hc90_o0_1, hs90_o0_1, ht5_, htm3__68, trivial⟩, ⟨rfl, trivial⟩⟩
       ·
        replace h := h.2 hc88_
        refine W_skip ?_
        refine then_n ?_
        exact ⟨_, rfl, ⟨z0, Ad0_1, cd0_1, Ad0_2, cd0_2, Ad0_3, cd0_3, yb4__68, Ab4__68_1, cb4__68_1, _, _, rfl, h, hI, hll85_, hhh85_, htd0, hcd0_1, hsd0_1, hcd0_2, hsd0_2, hcd0_3, hsd0_3, htb4__68, hcb4__68_1, hsb4__68_1, ht5_, htm3__68, trivial⟩, ⟨rfl, trivial⟩⟩
     ·
      simp only [e_, Nat.reduceAdd, Nat.reduceBEq] at b_
      subst b_
      clear h
      clear ht5_
      clear htm3__68
      rintro _ w85_ ⟨yd0_85, Ad0_85_1, cd0_85_1, Ad0_85_2, cd0_85_2, Ad0_85_3, cd0_85_3, yb4__85, Ab4__85_1, cb4__85_1, L85_, H85_, rfl, hJ85_, hI85_, hll85_, hhh85_, htd0_85, hcd0_85_1, hsd0_85_1, hcd0_85_2, hsd0_85_2, hcd0_85_3, hsd0_85_3, htb4__85, hcb4__85_1, hsb4__85_1, ht5_, htm3__68, -⟩
      replace hI := hI85_
      clear hI85_
      have h := hr85_ yd0_85 yb4__85 hJ85_
      clear hr85_ hJ85_
      refine W_seq_k fun K95 k95 => ?_
      refine W_region [132, 2, 3] rfl ?_
      refine Ops_step (R_loadB (v := .pointer (some ⟨b4_, 0, none⟩)) ag26 rfl ht5_.blk rfl) rfl rfl ?_
      refine Ops_step (R_assign rfl) rfl rfl (Ops_step (R_assign rfl) rfl rfl ?_)
      refine Ops_nil ?_
      refine then_n (k95 _ _ ?_)
      clear k95 K95
      refine W_ret ?_
      refine ⟨_, ⟨_, _, rfl, rfl, ⟨_, _, rfl, rfl, rfl⟩⟩, ?_⟩
      exact .inr ⟨0, yd0_85, Ad0_85_1, cd0_85_1, Ad0_85_2, cd0_85_2, Ad0_85_3, cd0_85_3, b4_, yb4__85, Ab4__85_1, cb4__85_1, m3_, ym3__68, _, _, rfl, hI, htd0_85, hcd0_85_1, hsd0_85_1, hcd0_85_2, hsd0_85_2, hcd0_85_3, hsd0_85_3, hge_b4_, htb4__85, hcb4__85_1, hsb4__85_1, hge_m3_, htm3__68, h⟩

end Go.Proofs.Ytkmljjhjojolcaa

