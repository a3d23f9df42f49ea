/- What is shown of the program on the way to the law. -/
import Derived.Test.YtkmljjhjojolcaaZn3
import Derived.Test.YtkmljjhjojolcaaZn4
import Derived.Test.YtkmljjhjojolcaaZn5
import Derived.Test.YtkmljjhjojolcaaZn7
import Derived.Test.YtkmljjhjojolcaaZn8
import Derived.Test.YtkmljjhjojolcaaZn15
import Derived.Test.YtkmljjhjojolcaaZn16
import Derived.Test.YtkmljjhjojolcaaProg
set_option linter.unusedVariables false
set_option linter.unusedSimpArgs false
set_option maxHeartbeats 4000000
namespace Go.Proofs.Ytkmljjhjojolcaa
open Go Go.Sx Go.Lx
namespace TJtL
theorem hm : Try.prog.follows .mixedOrders = true := by kernel_rfl
theorem ag25 : aggB Try.prog 25 = some false := by kernel_rfl
theorem ag26 : aggB Try.prog 26 = some false := by kernel_rfl
theorem ag3 : aggB Try.prog 3 = some false := by kernel_rfl
theorem ag4 : aggB Try.prog 4 = some false := by kernel_rfl
theorem ag41 : aggB Try.prog 41 = some false := by kernel_rfl
theorem ag85 : aggB Try.prog 85 = some true := by kernel_rfl
theorem bd14 : bodied Try.prog 14 = true := by kernel_rfl
theorem bd26 : bodied Try.prog 26 = true := by kernel_rfl
theorem bd39 : bodied Try.prog 39 = true := by kernel_rfl
theorem bd40 : bodied Try.prog 40 = true := by kernel_rfl
theorem bd41 : bodied Try.prog 41 = true := by kernel_rfl
theorem bd42 : bodied Try.prog 42 = true := by kernel_rfl
theorem bd43 : bodied Try.prog 43 = true := by kernel_rfl
theorem bd44 : bodied Try.prog 44 = true := by kernel_rfl
theorem bd45 : bodied Try.prog 45 = true := by kernel_rfl
theorem bd48 : bodied Try.prog 48 = true := by kernel_rfl
theorem el29 : Elem Try.prog 29 5 1 1 := Elem.of (by kernel_rfl)
theorem fo44_0 : offB Try.prog 44 0 = some 0 := by kernel_rfl
theorem fo46_0 : offB Try.prog 46 0 = some 0 := by kernel_rfl
theorem fo46_1 : offB Try.prog 46 1 = some 2 := by kernel_rfl
theorem fo46_2 : offB Try.prog 46 2 = some 3 := by kernel_rfl
theorem fo46_3 : offB Try.prog 46 3 = some 4 := by kernel_rfl
theorem fo53_2 : offB Try.prog 53 2 = some 4 := by kernel_rfl
theorem fo53_3 : offB Try.prog 53 3 = some 5 := by kernel_rfl
theorem fo53_4 : offB Try.prog 53 4 = some 6 := by kernel_rfl
theorem pl44 : partPl Try.prog 44 = some [(0, 1), (1, 1)] := by kernel_rfl
theorem pl46 : partPl Try.prog 46 = some [(0, 2), (2, 1), (3, 1), (4, 1)] := by kernel_rfl
theorem sz26 : sz Try.prog 26 = some 1 := by kernel_rfl
theorem sz3 : sz Try.prog 3 = some 1 := by kernel_rfl
theorem sz4 : sz Try.prog 4 = some 1 := by kernel_rfl
theorem sz41 : sz Try.prog 41 = some 1 := by kernel_rfl
theorem sz85 : sz Try.prog 85 = some 2 := by kernel_rfl
theorem zr26 : zr Try.prog 26 = some ([.pointer none]) := by kernel_rfl
theorem zr41 : zr Try.prog 41 = some ([.slice none 0 0]) := by kernel_rfl
theorem zr44 : zr Try.prog 44 = some ([.slice none 0 0] ++ [.map none]) := by kernel_rfl
theorem zr46 : zr Try.prog 46 = some ([.slice none 0 0] ++ [.map none] ++ [.pointer none] ++ [.int .i64 0] ++ [.int .i64 0]) := by kernel_rfl
theorem zr85 : zr Try.prog 85 = some ([.int .i64 0] ++ [.slice none 0 0]) := by kernel_rfl
end TJtL
open TJtL
theorem journal_Journal_Check_v3_ok {G : Gh} {w : World} (hS : St G w) (hg : GL G) {d0 : Nat} {z0 : journal_Journal} {Ad0_1 : Option Addr} {cd0_1 : Nat} {d1 : Nat} {z1 : List (Int × Int)} (htd1 : MTok G G w d1 z1) (htd0 : Tok G w d0 46 ([.slice Ad0_1 z0.book_.l_.length cd0_1, .map (some d1), .pointer none, vi z0.gen_, vi z0.place_])) (hcd0_1 : z0.book_.l_.length ≤ cd0_1) (hsd0_1 : Sl G Ad0_1 z0.book_.l_) {Q : Int → journal_Journal → Prop} (h : journal_Journal_Check_v3 z0 z1 Q) : Calls Try.prog 14 #[.pointer (some ⟨d0, 0, none⟩)] w fun e w2 => ∃ (r0 : Int) (y0 : journal_Journal) (Ay0_1 : Option Addr) (cy0_1 : Nat) (L H : Gh), e = .returned (vi r0) ∧ Inv [d0] G w L H w2 ∧ Tok H w2 d0 46 ([.slice Ay0_1 y0.book_.l_.length cy0_1, .map (some d1), .pointer none, vi y0.gen_, vi y0.place_]) ∧ y0.book_.l_.length ≤ cy0_1 ∧ Sl H Ay0_1 y0.book_.l_ ∧ Q r0 y0 := by
 unfold journal_Journal_Check_v3 at h
 have hI := Inv.start (M := [d0]) hS
 refine calls_W 103 Try.func14 rfl Try.ntmps14 rfl [.tmp 2] rfl ?_
 have hlt_d0 := htd0.blk.lt
 have hlt_d1 := htd1.lt
 refine W_seq_k fun K1 k1 => ?_
 refine W_region [2] rfl (Ops_step (R_assign rfl) rfl rfl ?_)
 refine Ops_nil ?_
 refine then_n (k1 _ _ ?_)
 clear k1 K1
 refine W_seq_k fun K2 k2 => ?_
 refine W_block ?_
 refine W_seq_k fun K3 k3 => ?_
 refine W_region [12, 13, 11] rfl (Ops_step (R_move rfl) rfl rfl ?_)
 refine Ops_call (C_func bd39 rfl) rfl rfl ?_
 refine (journal_Journal_dead_v3_ok (z0 := z0) (z1 := z1) hI.st (hg.up hI.le) htd1 htd0 hcd0_1 hsd0_1 h).mono ?_
 rintro _ w4_ ⟨r4_0, L4_, H4_, rfl, hI4_, h⟩
 refine Exists.elim (hI.call hI4_ (by simp)) fun L40_ h4_ => ?_
 have hz4_ := hI.size
 replace hI := h4_.1
 have u4_ := h4_.2.1
 have hl4_ := h4_.2.2
 clear h4_
 replace hsd0_1 := hsd0_1.up u4_.hh
 replace htd1 := htd1.up u4_.hh u4_ (by simp)
 replace htd0 := htd0.up u4_ (by simp)
 clear hI4_ u4_ hl4_
 refine ⟨_, rfl, ?_⟩
 refine Ops_step (R_assign rfl) rfl rfl ?_
 refine Ops_nil ?_
 refine then_n (k3 _ _ ?_)
 clear k3 K3
 refine W_cond rfl (fun hc5_ => ?_) (fun hc5_ => ?_)
 ·
  replace h := h.1 hc5_
  refine W_seq_k fun K6 k6 => ?_
  refine W_region [2] rfl (Ops_step (R_assign rfl) rfl rfl ?_)
  refine Ops_nil ?_
  refine then_n (k6 _ _ ?_)
  clear k6 K6
  refine W_ret ?_
  refine block_ret ?_
  refine then_ret ?_
  clear k2 K2
  refine ⟨_, ⟨_, _, rfl, rfl, rfl⟩, ?_⟩
  exact ⟨6, z0, Ad0_1, cd0_1, _, _, rfl, hI, htd0, hcd0_1, hsd0_1, h⟩
 ·
  replace h := h.2 hc5_
  refine W_seq_k fun K7 k7 => ?_
  refine W_region [15, 16, 17, 18, 19, 14] rfl (Ops_step (R_move rfl) rfl rfl (Ops_step (R_nilCheck rfl) rfl rfl (Ops_step (R_fieldAddr fo46_2 rfl) rfl rfl ?_)))
  refine Ops_step (R_loadB (v := vi z0.gen_) ag3 rfl htd0.blk rfl) rfl rfl ?_
  refine Ops_step (R_geq rfl rfl) rfl rfl (Ops_step (R_assign rfl) rfl rfl ?_)
  refine Ops_nil ?_
  refine then_n (k7 _ _ ?_)
  clear k7 K7
  refine W_keepB [0, 14] fun B_ b_ => ?_
  simp only [e_, Nat.reduceAdd, Nat.reduceBEq] at b_
  subst b_
  refine W_if rfl (fun hc9_ => ?_) (fun hc9_ => ?_)
  ·
   replace h := h.1 hc9_
   refine W_seq_k fun K10 k10 => ?_
   refine W_region [2] rfl (Ops_step (R_assign rfl) rfl rfl ?_)
   refine Ops_nil ?_
   refine then_n (k10 _ _ ?_)
   clear k10 K10
   refine W_ret ?_
   refine block_ret ?_
   refine then_ret ?_
   clear k2 K2
   refine ⟨_, ⟨_, _, rfl, rfl, rfl⟩, ?_⟩
   exact ⟨5, z0, Ad0_1, cd0_1, _, _, rfl, hI, htd0, hcd0_1, hsd0_1, h⟩
  ·
   replace h := h.2 hc9_
   refine W_skip ?_
   refine block_n ?_
   refine then_n (k2 _ _ ?_)
   clear k2 K2
   refine W_seq_k fun K11 k11 => ?_
   refine W_region [20, 21, 22, 23, 24, 3, 4] rfl (Ops_step (R_move rfl) rfl rfl (Ops_step (R_nilCheck rfl) rfl rfl (Ops_step (R_fieldAddr fo46_2 rfl) rfl rfl ?_)))
   refine Ops_step (R_loadB (v := vi z0.gen_) ag3 rfl htd0.blk rfl) rfl rfl ?_
   have hk12_ := h.1
   replace h := h.2
   refine Ops_step (R_add rfl rfl (wI hk12_.1 hk12_.2)) rfl rfl (Ops_step (R_assign rfl) rfl rfl (Ops_step (R_assign rfl) rfl rfl ?_))
   refine Ops_nil ?_
   refine then_n (k11 _ _ ?_)
   clear k11 K11
   refine W_keepB [0, 3, 4] fun B_ b_ => ?_
   simp only [e_, Nat.reduceAdd, Nat.reduceBEq] at b_
   subst b_
   refine ex_ h fun J14_ hr14_ h => ?_
   refine W_seq_join [0, 3] [4] (fun vals_ w2 => ∃ (x4_14 : Int) (L H : Gh), vals_ = [vi x4_14] ∧ J14_ x4_14 ∧ Inv [d0] G w L H w2 ∧ Le L40_ L ∧ Le H4_ H ∧ MTok H H w2 d1 z1 ∧ Tok H w2 d0 46 ([.slice Ad0_1 z0.book_.l_.length cd0_1, .map (some d1), .pointer none, vi z0.gen_, vi z0.place_]) ∧ True) (fun B_ b_ => ?_) (fun B_ b_ => ?_)
   ·
    simp only [e_, Nat.reduceAdd, Nat.reduceBEq] at b_
    subst b_
    clear hr14_
    have hll14_ := Le.refl L40_
    have hhh14_ := Le.refl H4_
    refine W_seq_k fun K15 k15 => ?_
    refine W_region [25, 26, 27, 28, 29] rfl (Ops_step (R_move rfl) rfl rfl (Ops_step (R_nilCheck rfl) rfl rfl (Ops_step (R_fieldAddr fo46_3 rfl) rfl rfl ?_)))
    refine Ops_step (R_loadB (v := vi z0.place_) ag3 rfl htd0.blk rfl) rfl rfl ?_
    refine Ops_step (R_eql rfl rfl) rfl rfl ?_
    refine Ops_nil ?_
    refine then_n (k15 _ _ ?_)
    clear k15 K15
    refine W_if rfl (fun hc16_ => ?_) (fun hc16_ => ?_)
    ·
     replace h := h.1 hc16_
     refine W_region [4] rfl (Ops_step (R_assign rfl) rfl rfl ?_)
     refine Ops_nil ?_
     refine then_n ?_
     exact ⟨_, rfl, ⟨2, _, _, rfl, h, hI, hll14_, hhh14_, htd1, htd0, trivial⟩, ⟨rfl, rfl, trivial⟩⟩
    ·
     replace h := h.2 hc16_
     refine W_skip ?_
     refine then_n ?_
     exact ⟨_, rfl, ⟨1, _, _, rfl, h, hI, hll14_, hhh14_, htd1, htd0, trivial⟩, ⟨rfl, rfl, trivial⟩⟩
   ·
    simp only [e_, Nat.reduceAdd, Nat.reduceBEq] at b_
    subst b_
    clear h
    clear htd0
    clear htd1
    rintro _ w14_ ⟨x4_14, L14_, H14_, rfl, hJ14_, hI14_, hll14_, hhh14_, htd1, htd0, -⟩
    replace hI := hI14_
    clear hI14_
    have h := hr14_ x4_14 hJ14_
    clear hr14_ hJ14_
    replace hsd0_1 := hsd0_1.up hhh14_
    refine W_seq_k fun K17 k17 => ?_
    refine W_region [30, 31, 32, 33, 34, 35, 36, 37, 5] rfl (Ops_step (R_move rfl) rfl rfl (Ops_step (R_move rfl) rfl rfl (Ops_step (R_nilCheck rfl) rfl rfl (Ops_step (R_fieldAddr fo46_0 rfl) rfl rfl ?_))))
    refine Ops_step (R_fieldAddr fo44_0 rfl) rfl rfl ?_
    refine Ops_step (R_loadB (v := .slice Ad0_1 z0.book_.l_.length cd0_1) ag41 rfl htd0.blk rfl) rfl rfl ?_
    refine Ops_step (R_len Try.underlying41 rfl rfl) rfl rfl ?_
    refine Ops_call (C_func bd40 rfl) rfl rfl ?_
    refine (journal_head_ok (x0 := (z0.gen_ + 1)) (x1 := (z0.book_.l_.length : Int)) hI.st (hg.up hI.le)  h).mono ?_
    rintro _ w18_ ⟨A18_0, c18_0, r18_0, L18_, H18_, rfl, hI18_, ho18_0, h⟩
    refine Exists.elim (hI.call hI18_ (by simp)) fun L180_ h18_ => ?_
    have hz18_ := hI.size
    replace hI := h18_.1
    have u18_ := h18_.2.1
    have hl18_ := h18_.2.2
    clear h18_
    replace hsd0_1 := hsd0_1.up u18_.hh
    replace htd1 := htd1.up u18_.hh u18_ (by simp)
    replace htd0 := htd0.up u18_ (by simp)
    replace ho18_0 := OwnS.backS ho18_0 hz18_ (Le.refl _)
    clear hI18_ u18_ hl18_
    refine ⟨_, rfl, ?_⟩
    refine Ops_step (R_assign rfl) rfl rfl ?_
    refine Ops_nil ?_
    refine then_n (k17 _ _ ?_)
    clear k17 K17
    refine W_keepB [0, 3, 4, 5] fun B_ b_ => ?_
    simp only [e_, Nat.reduceAdd, Nat.reduceBEq] at b_
    subst b_
    refine ex_ h fun J20_ hr20_ h => ?_
    refine W_seq_join [0, 3, 4] [5] (fun vals_ w2 => ∃ (x5_20 : List UInt8) (A5_20 : Option Addr) (c5_20 : Nat) (L H : Gh), vals_ = [.slice A5_20 x5_20.length c5_20] ∧ J20_ x5_20 ∧ Inv [d0] G w L H w2 ∧ Le L180_ L ∧ Le H18_ H ∧ OwnS w.heap.size 5 Gh.no H w2 A5_20 c5_20 x5_20 ∧ MTok H H w2 d1 z1 ∧ Tok H w2 d0 46 ([.slice Ad0_1 z0.book_.l_.length cd0_1, .map (some d1), .pointer none, vi z0.gen_, vi z0.place_]) ∧ True) (fun B_ b_ => ?_) (fun B_ b_ => ?_)
    ·
     simp only [e_, Nat.reduceAdd, Nat.reduceBEq] at b_
     subst b_
     clear hr20_
     have hll20_ := Le.refl L180_
     have hhh20_ := Le.refl H18_
     refine W_seq_k fun K21 k21 => ?_
     refine W_region [38, 39, 40, 41, 42, 43, 44] rfl (Ops_step (R_move rfl) rfl rfl (Ops_step (R_nilCheck rfl) rfl rfl (Ops_step (R_fieldAddr fo46_0 rfl) rfl rfl (Ops_step (R_fieldAddr fo44_0 rfl) rfl rfl ?_))))
     refine Ops_step (R_loadB (v := .slice Ad0_1 z0.book_.l_.length cd0_1) ag41 rfl htd0.blk rfl) rfl rfl ?_
     refine Ops_step (R_len Try.underlying41 rfl rfl) rfl rfl (Ops_step (R_move rfl) rfl rfl ?_)
     refine Ops_nil ?_
     refine then_n (k21 _ _ ?_)
     clear k21 K21
     refine W_block ?_
     refine Exists.elim h fun I22_ h => Exists.elim h fun n22_ h => ?_
     have h0_ := h.1
     have hs22_ := h.2
     clear h
     refine W_loopB [0, 3, 4, 42, 43] [5, 44] (fun m vals_ w2 => ∃ (x5_22 : List UInt8) (A5_22 : Option Addr) (c5_22 : Nat) (x44_22 : Int) (L H : Gh), vals_ = [.slice A5_22 x5_22.length c5_22, vi x44_22] ∧ I22_ m x5_22 x44_22 ∧ Inv [d0] G w L H w2 ∧ Le L180_ L ∧ Le H18_ H ∧ OwnS w.heap.size 5 Gh.no H w2 A5_22 c5_22 x5_22 ∧ MTok H H w2 d1 z1 ∧ Tok H w2 d0 46 ([.slice Ad0_1 z0.book_.l_.length cd0_1, .map (some d1), .pointer none, vi z0.gen_, vi z0.place_]) ∧ True) n22_ _ rfl ⟨r18_0, A18_0, c18_0, 0, _, _, rfl, h0_, hI, Le.refl _, Le.refl _, ho18_0, htd1, htd0, trivial⟩ fun B_ b_ => ?_
     clear h0_
     simp only [e_, Nat.reduceAdd, Nat.reduceBEq] at b_
     subst b_
     clear htd0
     clear htd1
     rintro m22_ _ w22_ ⟨x5_22, A5_22, c5_22, x44_22, L22_, H22_, rfl, hJ22_, hI22_, hll22_, hhh22_, ho5_22, htd1, htd0, -⟩
     replace hI := hI22_
     clear hI22_
     have h := hs22_ m22_ x5_22 x44_22 hJ22_
     clear hs22_ hJ22_
     replace hsd0_1 := hsd0_1.up hhh22_
     replace hll20_ := hll20_.trans hll22_
     replace hhh20_ := hhh20_.trans hhh22_
     refine W_seq_k fun K23 k23 => ?_
     refine W_region [45] rfl (Ops_step (R_lss rfl rfl) rfl rfl ?_)
     refine Ops_nil ?_
     refine then_n (k23 _ _ ?_)
     clear k23 K23
     refine W_seq_k fun K24 k24 => ?_
     refine W_if rfl (fun hc25_ => ?_) (fun hc25_ => ?_)
     ·
      replace h := h.1 hc25_
      refine W_skip ?_
      refine then_n (k24 _ _ ?_)
      clear k24 K24
      refine W_seq_k fun K26 k26 => ?_
      refine W_block ?_
      refine W_seq_k fun K27 k27 => ?_
      refine W_region [46, 47, 48, 7, 6, none] rfl (Ops_step (R_move rfl) rfl rfl ?_)
      refine ex_ h fun x28_ hx28_ h => ?_
      have ha28_ := (Sl.atN (n := 2) rfl (by decide) hsd0_1 hx28_).1
      refine Exists.elim (Sl.atN (n := 2) rfl (by decide) hsd0_1 hx28_).2 fun l28_ hA28_ => ?_
      have hr28_ := hA28_.1
      have hg28_ := hA28_.2
      clear hA28_
      refine Ops_step (R_indexSl Try.underlying41 sz85 rfl rfl hx28_.1 hx28_.lt ha28_) rfl rfl ?_
      obtain ⟨A28_1, c28_1, rfl, ⟨hc28_1, hs28_1⟩⟩ := hr28_
      refine Ops_step (R_loadCs (cs := [vi x28_.label_, .slice A28_1 x28_.data_.length c28_1]) ag85 sz85 rfl (fun j_ v_ hv_ => hI.st _ _ (hg28_ j_ v_ hv_))) rfl rfl ?_
      have hI0_ := hI
      refine Ops_to (R_alloc zr85) rfl rfl ?_
      rintro _ w29_ ⟨b29_, rfl, hb29_, hB29_, hF29_⟩
      replace hI := hI.fr0 hF29_
      replace htd1 := htd1.fr0 hF29_
      replace htd0 := htd0.fr0 hF29_
      replace ho5_22 := ho5_22.fr0 hF29_
      have ht29_ : Tok H22_ _ b29_ 85 ([vi 0, .slice none 0 0]) := ⟨hB29_.to rfl, Out.ge hI0_.st (Nat.le_of_eq hb29_.symm)⟩
      have hge_b29_ : w.heap.size ≤ b29_ := hb29_ ▸ hI0_.size
      clear hB29_ hb29_ hI0_ hF29_
      refine Ops_step (R_assign rfl) rfl rfl ?_
      refine Ops_to0 (R_storeN sz85 rfl rfl rfl ht29_.blk (Nat.le_of_ble_eq_true rfl) rfl) rfl ?_
      rintro _ w30_ ⟨hB30_, hF30_⟩
      replace hI := hI.tok hF30_ (out1 ht29_.out) (new1 hge_b29_)
      replace htd1 := htd1.fr hF30_ (htd1.neT ht29_)
      replace htd0 := htd0.fr hF30_ (htd0.apart ht29_ (by decide))
      replace ho5_22 := ho5_22.fr hF30_ (ho5_22.ne ht29_.blk (by decide))
      replace ht29_ : Tok H22_ _ b29_ 85 ([vi x28_.label_, .slice A28_1 x28_.data_.length c28_1]) := ⟨hB30_, ht29_.out⟩
      clear hF30_ hB30_
      refine Ops_nil ?_
      refine then_n (k27 _ _ ?_)
      clear k27 K27
      refine W_region [49, 50, 51, 52, 53, 5] rfl (Ops_step (R_move rfl) rfl rfl (Ops_step (R_move rfl) rfl rfl (Ops_step (R_loadN ag85 sz85 rfl ht29_.blk (Nat.le_of_ble_eq_true rfl)) rfl rfl ?_)))
      refine Ops_call (C_func bd41 rfl) rfl rfl ?_
      refine (journal_tell_ok (x0 := x44_22) (x1 := x28_) hI.st (hg.up hI.le) ⟨A28_1, c28_1, rfl, ⟨hc28_1, hs28_1⟩⟩ h).mono ?_
      have hlo31_0_ho5_22 := ho5_22.lt
      rintro _ w31_ ⟨A31_0, c31_0, r31_0, L31_, H31_, rfl, hI31_, ho31_0, h⟩
      refine Exists.elim (hI.call hI31_ (by simp)) fun L310_ h31_ => ?_
      have hz31_ := hI.size
      replace hI := h31_.1
      have u31_ := h31_.2.1
      have hl31_ := h31_.2.2
      clear h31_
      replace hsd0_1 := hsd0_1.up u31_.hh
      replace hll20_ := hll20_.trans u31_.ll
      replace hhh20_ := hhh20_.trans u31_.hh
      replace htd1 := htd1.up u31_.hh u31_ (by simp)
      replace htd0 := htd0.up u31_ (by simp)
      replace ho5_22 := ho5_22.up (Le.refl _) u31_ (by simp)
      replace hll22_ := hll22_.trans u31_.ll
      replace hhh22_ := hhh22_.trans u31_.hh
      have hsp31_0_ho5_22 : ∀ i ∈ bk A31_0 c31_0, i ∉ bk A5_22 c5_22 := sep_new ho31_0.off hlo31_0_ho5_22
      replace ho31_0 := OwnS.backS ho31_0 hz31_ (Le.refl _)
      clear hI31_ u31_ hl31_
      refine ⟨_, rfl, ?_⟩
      refine Exists.elim (ho31_0.freeze hI) fun L32_ h32_ => Exists.elim h32_ fun H32_ h32_ => ?_
      replace hI := h32_.1
      have u32_ := h32_.2.1
      have hs32_ := h32_.2.2.1 (Le.no _)
      have hc32_ := ho31_0.cap
      replace hsd0_1 := hsd0_1.up u32_.hh
      replace hll20_ := hll20_.trans u32_.ll
      replace hhh20_ := hhh20_.trans u32_.hh
      replace htd1 := htd1.up u32_.hh u32_ (ho31_0.old hlt_d1)
      replace htd0 := htd0.up u32_ (ho31_0.old hlt_d0)
      replace ho5_22 := ho5_22.up (Le.refl _) u32_ (sep_sym hsp31_0_ho5_22)
      replace hll22_ := hll22_.trans u32_.ll
      replace hhh22_ := hhh22_.trans u32_.hh
      clear h32_ u32_ ho31_0
      have hk34_ := h.1
      replace h := h.2
      refine Ops_to (X_append (α := UInt8) (xs := x5_22) (ys := r31_0) el29 rfl rfl ho5_22 (Srcs.sc (Srcs.ofSl Try.underlying29 (hs32_.up hI.sub) hI.st (by decide))) hI.st hk34_ (by decide) hI.size) rfl rfl ?_
      rintro _ w33_ ⟨A33_, c33_, rfl, ho33_, hF33_, hbk33_⟩
      clear hbk33_
      replace hI := hI.tok hF33_ ho5_22.out (ho5_22.new (Nat.le_refl _))
      replace htd1 := htd1.fr hF33_ (ho5_22.old hlt_d1)
      replace htd0 := htd0.fr hF33_ (ho5_22.old hlt_d0)
      clear hF33_ ho5_22
      refine Ops_step (R_assign rfl) rfl rfl ?_
      refine Ops_nil ?_
      refine block_n ?_
      refine then_n (k26 _ _ ?_)
      clear k26 K26
      refine W_keepB [0, 3, 4, 5, 42, 43, 44] fun B_ b_ => ?_
      simp only [e_, Nat.reduceAdd, Nat.reduceBEq] at b_
      subst b_
      refine W_region [54, 44] rfl ?_
      have hk36_ := h.1
      replace h := h.2
      refine Ops_step (R_add rfl rfl (wI hk36_.1 hk36_.2)) rfl rfl (Ops_step (R_move rfl) rfl rfl ?_)
      refine Ops_nil ?_
      refine then_n ?_
      exact h.elim fun m_ h => ⟨m_, _, h.1, rfl, ⟨(x5_22 ++ r31_0), A33_, c33_, (x44_22 + 1), _, _, rfl, h.2, hI, hll22_, hhh22_, ho33_, htd1, htd0, trivial⟩, ⟨rfl, rfl, rfl, rfl, rfl, trivial⟩⟩
     ·
      replace h := h.2 hc25_
      refine W_exit ?_
      refine then_exit ?_
      clear k24 K24
      refine then_exit ?_
      refine block_exit ?_
      refine then_n ?_
      exact ⟨_, rfl, ⟨x5_22, A5_22, c5_22, _, _, rfl, h, hI, hll20_, hhh20_, ho5_22, htd1, htd0, trivial⟩, ⟨rfl, rfl, rfl, trivial⟩⟩
    ·
     simp only [e_, Nat.reduceAdd, Nat.reduceBEq] at b_
     subst b_
     clear h
     clear htd0
     clear htd1
     rintro _ w20_ ⟨x5_20, A5_20, c5_20, L20_, H20_, rfl, hJ20_, hI20_, hll20_, hhh20_, ho5_20, htd1, htd0, -⟩
     replace hI := hI20_
     clear hI20_
     have h := hr20_ x5_20 hJ20_
     clear hr20_ hJ20_
     replace hsd0_1 := hsd0_1.up hhh20_
     refine W_seq_k fun K37 k37 => ?_
     refine W_seq_k fun K38 k38 => ?_
     refine W_region [55, 56, 57, 58, 59, 60, 8] rfl (Ops_step (R_move rfl) rfl rfl (Ops_step (R_nilCheck rfl) rfl rfl (Ops_step (R_fieldAddr fo46_1 rfl) rfl rfl ?_)))
     refine Ops_step (R_loadB (v := .pointer none) ag25 rfl htd0.blk rfl) rfl rfl ?_
     refine Ops_step (R_move rfl) rfl rfl ?_
     refine Ops_call (C_func bd42 rfl) rfl rfl ?_
     refine (disk_Disk_Wipe_v1_ok (x1 := x4_14) hI.st (hg.up hI.le)  h).mono ?_
     rintro _ w39_ ⟨r39_0, L39_, H39_, rfl, hI39_, h⟩
     refine Exists.elim (hI.call hI39_ (by simp)) fun L390_ h39_ => ?_
     have hz39_ := hI.size
     replace hI := h39_.1
     have u39_ := h39_.2.1
     have hl39_ := h39_.2.2
     clear h39_
     replace hsd0_1 := hsd0_1.up u39_.hh
     replace htd1 := htd1.up u39_.hh u39_ (by simp)
     replace htd0 := htd0.up u39_ (by simp)
     replace ho5_20 := ho5_20.up (Le.refl _) u39_ (by simp)
     clear hI39_ u39_ hl39_
     refine ⟨_, rfl, ?_⟩
     refine Ops_step (R_assign rfl) rfl rfl ?_
     refine Ops_nil ?_
     refine then_n (k38 _ _ ?_)
     clear k38 K38
     refine W_keepB [0, 3, 4, 5, 8] fun B_ b_ => ?_
     simp only [e_, Nat.reduceAdd, Nat.reduceBEq] at b_
     subst b_
     refine W_seq_k fun K41 k41 => ?_
     refine W_region [61, 62] rfl (Ops_step (R_move rfl) rfl rfl (Ops_step (R_neq rfl rfl) rfl rfl ?_))
     refine Ops_nil ?_
     refine then_n (k41 _ _ ?_)
     clear k41 K41
     refine W_if rfl (fun hc42_ => ?_) (fun hc42_ => ?_)
     ·
      replace h := h.1 hc42_
      refine W_seq_k fun K43 k43 => ?_
      refine W_region [63, 2] rfl (Ops_step (R_move rfl) rfl rfl (Ops_step (R_assign rfl) rfl rfl ?_))
      refine Ops_nil ?_
      refine then_n (k43 _ _ ?_)
      clear k43 K43
      refine W_keepB [2] fun B_ b_ => ?_
      simp only [e_, Nat.reduceAdd, Nat.reduceBEq] at b_
      subst b_
      refine W_ret ?_
      refine then_ret ?_
      clear k37 K37
      refine ⟨_, ⟨_, _, rfl, rfl, rfl⟩, ?_⟩
      exact ⟨r39_0, z0, Ad0_1, cd0_1, _, _, rfl, hI, htd0, hcd0_1, hsd0_1, h⟩
     ·
      replace h := h.2 hc42_
      refine W_skip ?_
      refine then_n (k37 _ _ ?_)
      clear k37 K37
      refine W_seq_k fun K45 k45 => ?_
      refine W_seq_k fun K46 k46 => ?_
      refine W_region [64, 65, 66, 67, 68, 69, 70, 9] rfl (Ops_step (R_move rfl) rfl rfl (Ops_step (R_nilCheck rfl) rfl rfl (Ops_step (R_fieldAddr fo46_1 rfl) rfl rfl ?_)))
      refine Ops_step (R_loadB (v := .pointer none) ag25 rfl htd0.blk rfl) rfl rfl ?_
      refine Ops_step (R_move rfl) rfl rfl (Ops_step (R_move rfl) rfl rfl ?_)
      refine Exists.elim (ho5_20.lend hI.st (Le.no _)) fun Hb47_0_ hb47_0_ => ?_
      refine Ops_call (C_func bd26 rfl) rfl rfl ?_
      refine (disk_Disk_Append_v1_ok (x1 := x4_14) (x2 := x5_20) hb47_0_.1 (hg.up (hI.le.trans hb47_0_.2.1)) ho5_20.cap hb47_0_.2.2 h).mono ?_
      rintro _ w47_ ⟨r47_0, L47_, H47_, rfl, hI47_, h⟩
      refine Exists.elim (hI.callB hb47_0_.2.1 hI47_ (by simp)) fun L470_ h47_ => Exists.elim h47_ fun H470_ h47_ => ?_
      have hz47_ := hI.size
      replace hI := h47_.1
      have u47_ := h47_.2.1
      have hl47_ := h47_.2.2.1
      have hh47_ := h47_.2.2.2
      clear h47_
      replace hsd0_1 := hsd0_1.up u47_.hh
      replace htd1 := htd1.up u47_.hh u47_ (by simp)
      replace htd0 := htd0.up u47_ (by simp)
      clear hI47_ u47_ hl47_
      refine ⟨_, rfl, ?_⟩
      refine Ops_step (R_assign rfl) rfl rfl ?_
      refine Ops_nil ?_
      refine then_n (k46 _ _ ?_)
      clear k46 K46
      refine W_keepB [0, 3, 4, 9] fun B_ b_ => ?_
      simp only [e_, Nat.reduceAdd, Nat.reduceBEq] at b_
      subst b_
      refine W_seq_k fun K49 k49 => ?_
      refine W_region [71, 72] rfl (Ops_step (R_move rfl) rfl rfl (Ops_step (R_neq rfl rfl) rfl rfl ?_))
      refine Ops_nil ?_
      refine then_n (k49 _ _ ?_)
      clear k49 K49
      refine W_if rfl (fun hc50_ => ?_) (fun hc50_ => ?_)
      ·
       replace h := h.1 hc50_
       refine W_seq_k fun K51 k51 => ?_
       refine W_region [73, 2] rfl (Ops_step (R_move rfl) rfl rfl (Ops_step (R_assign rfl) rfl rfl ?_))
       refine Ops_nil ?_
       refine then_n (k51 _ _ ?_)
       clear k51 K51
       refine W_keepB [2] fun B_ b_ => ?_
       simp only [e_, Nat.reduceAdd, Nat.reduceBEq] at b_
       subst b_
       refine W_ret ?_
       refine then_ret ?_
       clear k45 K45
       refine ⟨_, ⟨_, _, rfl, rfl, rfl⟩, ?_⟩
       exact ⟨r47_0, z0, Ad0_1, cd0_1, _, _, rfl, hI, htd0, hcd0_1, hsd0_1, h⟩
      ·
       replace h := h.2 hc50_
       refine W_skip ?_
       refine then_n (k45 _ _ ?_)
       clear k45 K45
       refine W_seq_k fun K53 k53 => ?_
       refine W_region [74, 75, 76, 77, 78, 79, none, 80, 81, none] rfl (Ops_step (R_move rfl) rfl rfl (Ops_step (R_move rfl) rfl rfl (Ops_step (R_move rfl) rfl rfl (Ops_step (R_move rfl) rfl rfl ?_))))
       refine Ops_step (R_nilCheck rfl) rfl rfl (Ops_step (R_fieldAddr fo46_2 rfl) rfl rfl ?_)
       refine Ops_to0 (R_store sz3 rfl rfl htd0.blk (by show 3 < 5; decide) rfl) rfl ?_
       rintro _ w54_ ⟨hB54_, hF54_⟩
       replace hI := hI.tok hF54_ (out1 htd0.out) (mem1 (by simp))
       replace htd1 := htd1.fr hF54_ (htd1.neT htd0)
       replace htd0 : Tok H470_ _ d0 46 ([.slice Ad0_1 z0.book_.l_.length cd0_1, .map (some d1), .pointer none, vi (z0.gen_ + 1), vi z0.place_]) := ⟨hB54_, htd0.out⟩
       clear hF54_ hB54_
       refine Ops_step (R_nilCheck rfl) rfl rfl (Ops_step (R_fieldAddr fo46_3 rfl) rfl rfl ?_)
       refine Ops_to0 (R_store sz3 rfl rfl htd0.blk (by show 4 < 5; decide) rfl) rfl ?_
       rintro _ w55_ ⟨hB55_, hF55_⟩
       replace hI := hI.tok hF55_ (out1 htd0.out) (mem1 (by simp))
       replace htd1 := htd1.fr hF55_ (htd1.neT htd0)
       replace htd0 : Tok H470_ _ d0 46 ([.slice Ad0_1 z0.book_.l_.length cd0_1, .map (some d1), .pointer none, vi (z0.gen_ + 1), vi x4_14]) := ⟨hB55_, htd0.out⟩
       clear hF55_ hB55_
       refine Ops_nil ?_
       refine then_n (k53 _ _ ?_)
       clear k53 K53
       refine W_keepB [0, 3] fun B_ b_ => ?_
       simp only [e_, Nat.reduceAdd, Nat.reduceBEq] at b_
       subst b_
       refine W_seq_k fun K57 k57 => ?_
       refine W_seq_k fun K58 k58 => ?_
       refine W_region [82, 83, 84, 85, 86, 10] rfl (Ops_step (R_move rfl) rfl rfl (Ops_step (R_nilCheck rfl) rfl rfl (Ops_step (R_fieldAddr fo46_1 rfl) rfl rfl ?_)))
       refine Ops_step (R_loadB (v := .pointer none) ag25 rfl htd0.blk rfl) rfl rfl ?_
       refine Ops_call (C_func bd42 rfl) rfl rfl ?_
       refine (disk_Disk_Wipe_v1_ok (x1 := 0) hI.st (hg.up hI.le)  h).mono ?_
       rintro _ w59_ ⟨r59_0, L59_, H59_, rfl, hI59_, h⟩
       refine Exists.elim (hI.call hI59_ (by simp)) fun L590_ h59_ => ?_
       have hz59_ := hI.size
       replace hI := h59_.1
       have u59_ := h59_.2.1
       have hl59_ := h59_.2.2
       clear h59_
       replace hsd0_1 := hsd0_1.up u59_.hh
       replace htd1 := htd1.up u59_.hh u59_ (by simp)
       replace htd0 := htd0.up u59_ (by simp)
       clear hI59_ u59_ hl59_
       refine ⟨_, rfl, ?_⟩
       refine Ops_step (R_assign rfl) rfl rfl ?_
       refine Ops_nil ?_
       refine then_n (k58 _ _ ?_)
       clear k58 K58
       refine W_seq_k fun K60 k60 => ?_
       refine W_region [87, 88] rfl (Ops_step (R_move rfl) rfl rfl (Ops_step (R_neq rfl rfl) rfl rfl ?_))
       refine Ops_nil ?_
       refine then_n (k60 _ _ ?_)
       clear k60 K60
       refine W_keepB [0, 3, 10, 88] fun B_ b_ => ?_
       simp only [e_, Nat.reduceAdd, Nat.reduceBEq] at b_
       subst b_
       refine W_if rfl (fun hc62_ => ?_) (fun hc62_ => ?_)
       ·
        replace h := h.1 hc62_
        refine W_seq_k fun K63 k63 => ?_
        refine W_region [89, 2] rfl (Ops_step (R_move rfl) rfl rfl (Ops_step (R_assign rfl) rfl rfl ?_))
        refine Ops_nil ?_
        refine then_n (k63 _ _ ?_)
        clear k63 K63
        refine W_ret ?_
        refine then_ret ?_
        clear k57 K57
        refine ⟨_, ⟨_, _, rfl, rfl, rfl⟩, ?_⟩
        exact ⟨r59_0, (journal_Journal.mk z0.book_ (z0.gen_ + 1) x4_14), Ad0_1, cd0_1, _, _, rfl, hI, htd0, hcd0_1, hsd0_1, h⟩
       ·
        replace h := h.2 hc62_
        refine W_skip ?_
        refine then_n (k57 _ _ ?_)
        clear k57 K57
        refine W_seq_k fun K64 k64 => ?_
        refine W_drawF [90, 91, 92, 93, 94, 95, 96, 97, 98, 99, 100, 101, 102, 2] [(0, true), (1, true), (2, true), (3, true), (4, true), (5, true), (6, true), (7, true), (8, true), (9, true), (10, true), (11, false), (12, false), (13, true)] TJtL.hm rfl (by kernel_rfl) fun ops65_ w65_ hops65_ hF65_ => ?_
        replace hI := hI.fr0 hF65_
        replace htd1 := htd1.fr0 hF65_
        replace htd0 := htd0.fr0 hF65_
        clear hF65_
        refine HSp (R_move rfl) rfl rfl (HSp (R_nilCheck rfl) rfl rfl (HSp (R_fieldAddr fo46_1 rfl) rfl rfl ?_))
        refine HS_loadB (v := .pointer none) ag25 rfl htd0.blk rfl rfl rfl ?_
        refine HSp (R_move rfl) rfl rfl (HSp (R_move rfl) rfl rfl (HSp (R_nilCheck rfl) rfl rfl (HSp (R_fieldAddr fo46_0 rfl) rfl rfl (HSp (R_fieldAddr fo44_0 rfl) rfl rfl ?_))))
        refine HS_loadB (v := .slice Ad0_1 z0.book_.l_.length cd0_1) ag41 rfl htd0.blk rfl rfl rfl ?_
        refine HSp (R_len Try.underlying41 rfl rfl) rfl rfl ?_
        refine HS_call [3] _ rfl (by rw [hops65_]; kernel_rfl) (C_func bd40 rfl) rfl rfl ?_
        refine (journal_head_ok (x0 := (z0.gen_ + 1)) (x1 := (z0.book_.l_.length : Int)) hI.st (hg.up hI.le)  h).mono ?_
        rintro _ w66_ ⟨A66_0, c66_0, r66_0, L66_, H66_, rfl, hI66_, ho66_0, h⟩
        refine Exists.elim (hI.call hI66_ (by simp)) fun L660_ h66_ => ?_
        have hz66_ := hI.size
        replace hI := h66_.1
        have u66_ := h66_.2.1
        have hl66_ := h66_.2.2
        clear h66_
        replace hsd0_1 := hsd0_1.up u66_.hh
        replace htd1 := htd1.up u66_.hh u66_ (by simp)
        replace htd0 := htd0.up u66_ (by simp)
        replace ho66_0 := OwnS.backS ho66_0 hz66_ (Le.refl _)
        clear hI66_ u66_ hl66_
        refine ⟨_, rfl, ⟨(htd0.blk.at_ rfl), trivial⟩, ?_⟩
        refine Exists.elim (ho66_0.freeze hI) fun L67_ h67_ => Exists.elim h67_ fun H67_ h67_ => ?_
        replace hI := h67_.1
        have u67_ := h67_.2.1
        have hs67_ := h67_.2.2.1 (Le.no _)
        have hc67_ := ho66_0.cap
        replace hsd0_1 := hsd0_1.up u67_.hh
        replace htd1 := htd1.up u67_.hh u67_ (ho66_0.old hlt_d1)
        replace htd0 := htd0.up u67_ (ho66_0.old hlt_d0)
        clear h67_ u67_ ho66_0
        refine HS_call [] _ rfl (by rw [hops65_]; kernel_rfl) (C_func bd26 rfl) rfl rfl ?_
        refine (disk_Disk_Append_v1_ok (x1 := 0) (x2 := r66_0) hI.st (hg.up hI.le) hc67_ (hs67_.up hI.sub) h).mono ?_
        rintro _ w68_ ⟨r68_0, L68_, H68_, rfl, hI68_, h⟩
        refine Exists.elim (hI.call hI68_ (by simp)) fun L680_ h68_ => ?_
        have hz68_ := hI.size
        replace hI := h68_.1
        have u68_ := h68_.2.1
        have hl68_ := h68_.2.2
        clear h68_
        replace hsd0_1 := hsd0_1.up u68_.hh
        replace htd1 := htd1.up u68_.hh u68_ (by simp)
        replace htd0 := htd0.up u68_ (by simp)
        clear hI68_ u68_ hl68_
        refine ⟨_, rfl, trivial, ?_⟩
        refine HSp (R_assign rfl) rfl rfl ?_
        refine HS_nil ?_
        clear hops65_
        refine then_n (k64 _ _ ?_)
        clear k64 K64
        refine W_keepB [2] fun B_ b_ => ?_
        simp only [e_, Nat.reduceAdd, Nat.reduceBEq] at b_
        subst b_
        refine W_ret ?_
        refine ⟨_, ⟨_, _, rfl, rfl, rfl⟩, ?_⟩
        exact ⟨r68_0, (journal_Journal.mk z0.book_ (z0.gen_ + 1) x4_14), Ad0_1, cd0_1, _, _, rfl, hI, htd0, hcd0_1, hsd0_1, h⟩

theorem journal_Open_v1_ok {G : Gh} {w : World} (hS : St G w) (hg : GL G)  {Q0 : Int → Prop} {Q1 : Int → journal_Journal → (List (Int × Int)) → Prop} (h : journal_Open_v1  Q0 Q1) : Calls Try.prog 20 #[.pointer none] w fun e w2 => (∃ (r1 : Int) (L H : Gh), e = .returned (.tuple #[.pointer none, vi r1]) ∧ Inv [] G w L H w2 ∧ Q0 r1) ∨ (∃ (r1 : Int) (o0 : Nat) (y0 : journal_Journal) (Ay0_1 : Option Addr) (cy0_1 : Nat) (o1 : Nat) (y1 : List (Int × Int)) (L H : Gh), e = .returned (.tuple #[.pointer (some ⟨o0, 0, none⟩), vi r1]) ∧ Inv [] G w L H w2 ∧ w.heap.size ≤ o0 ∧ Tok H w2 o0 46 ([.slice Ay0_1 y0.book_.l_.length cy0_1, .map (some o1), .pointer none, vi y0.gen_, vi y0.place_]) ∧ y0.book_.l_.length ≤ cy0_1 ∧ Sl H Ay0_1 y0.book_.l_ ∧ w.heap.size ≤ o1 ∧ MTok H H w2 o1 y1 ∧ Q1 r1 y0 y1) := by
 unfold journal_Open_v1 at h
 have hI := Inv.start (M := []) hS
 refine calls_W 133 Try.func20 rfl Try.ntmps20 rfl [.tmp 2, .tmp 3] rfl ?_
 refine W_seq_k fun K1 k1 => ?_
 refine W_region [2, 3] rfl (Ops_step (R_assign rfl) rfl rfl (Ops_step (R_assign rfl) rfl rfl ?_))
 refine Ops_nil ?_
 refine then_n (k1 _ _ ?_)
 clear k1 K1
 refine W_seq_k fun K2 k2 => ?_
 refine W_region [26, 27, 28, 29, 30, 4, none] rfl ?_
 have hI0_ := hI
 refine Ops_to (R_makeMap) rfl rfl ?_
 rintro _ w3_ ⟨m3_, rfl, hb3_, hB3_, hF3_⟩
 replace hI := hI.fr0 hF3_
 have ht3_ : MTok G G _ m3_ ([] : List (Int × Int)) := MTok.made hB3_ (Out.ge hI0_.st (Nat.le_of_eq hb3_.symm))
 have hge_m3_ : w.heap.size ≤ m3_ := hb3_ ▸ hI0_.size
 clear hB3_ hb3_ hI0_ hF3_
 refine Ops_step (R_build (pl := [(1, 1)]) (cs := [.slice none 0 0, .map (some m3_)]) zr44 pl44 rfl rfl rfl) rfl rfl ?_
 refine Ops_step (R_move rfl) rfl rfl ?_
 refine Ops_step (R_build (pl := [(0, 2), (2, 1)]) (cs := [.slice none 0 0, .map (some m3_), .pointer none, vi 0, vi 0]) zr46 pl46 rfl rfl rfl) rfl rfl ?_
 have hI0_ := hI
 refine Ops_to (R_box rfl) rfl rfl ?_
 rintro _ w4_ ⟨b4_, rfl, hb4_, hB4_, hF4_⟩
 replace hI := hI.fr0 hF4_
 replace ht3_ := ht3_.fr0 hF4_
 have ht4_ : Tok G _ b4_ 46 ([.slice none 0 0, .map (some m3_), .pointer none, vi 0, vi 0]) := ⟨hB4_.to rfl, Out.ge hI0_.st (Nat.le_of_eq hb4_.symm)⟩
 have hge_b4_ : w.heap.size ≤ b4_ := hb4_ ▸ hI0_.size
 clear hB4_ hb4_ hI0_ hF4_
 have hI0_ := hI
 refine Ops_to (R_alloc zr26) rfl rfl ?_
 rintro _ w5_ ⟨b5_, rfl, hb5_, hB5_, hF5_⟩
 replace hI := hI.fr0 hF5_
 replace ht3_ := ht3_.fr0 hF5_
 replace ht4_ := ht4_.fr0 hF5_
 have ht5_ : Tok G _ b5_ 26 ([.pointer none]) := ⟨hB5_.to rfl, Out.ge hI0_.st (Nat.le_of_eq hb5_.symm)⟩
 have hge_b5_ : w.heap.size ≤ b5_ := hb5_ ▸ hI0_.size
 clear hB5_ hb5_ hI0_ hF5_
 refine Ops_to0 (R_store sz26 rfl rfl ht5_.blk (by show 0 < 1; decide) rfl) rfl ?_
 rintro _ w6_ ⟨hB6_, hF6_⟩
 replace hI := hI.tok hF6_ (out1 ht5_.out) (new1 hge_b5_)
 replace ht3_ := ht3_.fr hF6_ (ht3_.neT ht5_)
 replace ht4_ := ht4_.fr hF6_ (ht4_.apart ht5_ (by decide))
 replace ht5_ : Tok G _ b5_ 26 ([.pointer (some ⟨b4_, 0, none⟩)]) := ⟨hB6_, ht5_.out⟩
 clear hF6_ hB6_
 refine Ops_nil ?_
 refine then_n (k2 _ _ ?_)
 clear k2 K2
 refine W_keepB [0, 4] fun B_ b_ => ?_
 simp only [e_, Nat.reduceAdd, Nat.reduceBEq] at b_
 subst b_
 refine W_seq_k fun K8 k8 => ?_
 refine W_region [5] rfl ?_
 have hI0_ := hI
 refine Ops_to (R_alloc zr41) rfl rfl ?_
 rintro _ w9_ ⟨b9_, rfl, hb9_, hB9_, hF9_⟩
 replace hI := hI.fr0 hF9_
 replace ht3_ := ht3_.fr0 hF9_
 replace ht4_ := ht4_.fr0 hF9_
 replace ht5_ := ht5_.fr0 hF9_
 have ht9_ : Tok G _ b9_ 41 ([.slice none 0 0]) := ⟨hB9_.to rfl, Out.ge hI0_.st (Nat.le_of_eq hb9_.symm)⟩
 have hge_b9_ : w.heap.size ≤ b9_ := hb9_ ▸ hI0_.size
 clear hB9_ hb9_ hI0_ hF9_
 refine Ops_nil ?_
 refine then_n (k8 _ _ ?_)
 clear k8 K8
 refine ex_ h fun J10_ hr10_ h => ?_
 refine W_seq_join [0, 4, 5] [] (fun vals_ w2 => ∃ (yb4__10 : journal_Journal) (Ab4__10_1 : Option Addr) (cb4__10_1 : Nat) (yb9__10 : List journal_record) (Ab9__10_1 : Option Addr) (cb9__10_1 : Nat) (L H : Gh), vals_ = [] ∧ J10_ yb4__10 yb9__10 ∧ Inv [] G w L H w2 ∧ Le Gh.no L ∧ Le G H ∧ Tok H w2 b4_ 46 ([.slice Ab4__10_1 yb4__10.book_.l_.length cb4__10_1, .map (some m3_), .pointer none, vi yb4__10.gen_, vi yb4__10.place_]) ∧ yb4__10.book_.l_.length ≤ cb4__10_1 ∧ Sl H Ab4__10_1 yb4__10.book_.l_ ∧ Tok H w2 b9_ 41 ([.slice Ab9__10_1 yb9__10.length cb9__10_1]) ∧ yb9__10.length ≤ cb9__10_1 ∧ Sl H Ab9__10_1 yb9__10 ∧ MTok H H w2 m3_ ([] : List (Int × Int)) ∧ Tok H w2 b5_ 26 ([.pointer (some ⟨b4_, 0, none⟩)]) ∧ True) (fun B_ b_ => ?_) (fun B_ b_ => ?_)
 ·
  simp only [e_, Nat.reduceAdd, Nat.reduceBEq] at b_
  subst b_
  clear hr10_
  have hll10_ := Le.refl Gh.no
  have hhh10_ := Le.refl G
  refine W_seq_k fun K11 k11 => ?_
  refine W_region [6] rfl (Ops_step (R_assign rfl) rfl rfl ?_)
  refine Ops_nil ?_
  refine then_n (k11 _ _ ?_)
  clear k11 K11
  refine W_block ?_
  refine Exists.elim h fun I12_ h => Exists.elim h fun n12_ h => ?_
  have h0_ := h.1
  have hs12_ := h.2
  clear h
  refine W_loopB [0, 4, 5] [6] (fun m vals_ w2 => ∃ (x6_12 : Int) (yb4__12 : journal_Journal) (Ab4__12_1 : Option Addr) (cb4__12_1 : Nat) (yb9__12 : List journal_record) (Ab9__12_1 : Option Addr) (cb9__12_1 : Nat) (L H : Gh), vals_ = [vi x6_12] ∧ I12_ m x6_12 yb4__12 yb9__12 ∧ Inv [] G w L H w2 ∧ Le Gh.no L ∧ Le G H ∧ Tok H w2 b4_ 46 ([.slice Ab4__12_1 yb4__12.book_.l_.length cb4__12_1, .map (some m3_), .pointer none, vi yb4__12.gen_, vi yb4__12.place_]) ∧ yb4__12.book_.l_.length ≤ cb4__12_1 ∧ Sl H Ab4__12_1 yb4__12.book_.l_ ∧ Tok H w2 b9_ 41 ([.slice Ab9__12_1 yb9__12.length cb9__12_1]) ∧ yb9__12.length ≤ cb9__12_1 ∧ Sl H Ab9__12_1 yb9__12 ∧ MTok H H w2 m3_ ([] : List (Int × Int)) ∧ Tok H w2 b5_ 26 ([.pointer (some ⟨b4_, 0, none⟩)]) ∧ True) n12_ _ rfl ⟨1, (journal_Journal.mk (journal_book.mk []) 0 0), none, 0, [], none, 0, _, _, rfl, h0_, hI, Le.refl _, Le.refl _, ht4_, (Nat.le_refl 0), Sl.nil, ht9_, (Nat.le_refl 0), Sl.nil, ht3_, ht5_, trivial⟩ fun B_ b_ => ?_
  clear h0_
  simp only [e_, Nat.reduceAdd, Nat.reduceBEq] at b_
  subst b_
  clear ht3_
  clear ht5_
  rintro m12_ _ w12_ ⟨x6_12, yb4__12, Ab4__12_1, cb4__12_1, yb9__12, Ab9__12_1, cb9__12_1, L12_, H12_, rfl, hJ12_, hI12_, hll12_, hhh12_, htb4__12, hcb4__12_1, hsb4__12_1, htb9__12, hcb9__12_1, hsb9__12_1, ht3_, ht5_, -⟩
  replace hI := hI12_
  clear hI12_
  have h := hs12_ m12_ x6_12 yb4__12 yb9__12 hJ12_
  clear hs12_ hJ12_
  replace hll10_ := hll10_.trans hll12_
  replace hhh10_ := hhh10_.trans hhh12_
  refine W_seq_k fun K13 k13 => ?_
  refine W_seq_k fun K14 k14 => ?_
  refine W_region [31, 32] rfl (Ops_step (R_move rfl) rfl rfl (Ops_step (R_lss rfl rfl) rfl rfl ?_))
  refine Ops_nil ?_
  refine then_n (k14 _ _ ?_)
  clear k14 K14
  refine W_if rfl (fun hc15_ => ?_) (fun hc15_ => ?_)
  ·
   replace h := h.1 hc15_
   refine W_skip ?_
   refine then_n (k13 _ _ ?_)
   clear k13 K13
   refine ex_ h fun J16_ hr16_ h => ?_
   refine W_seq_join [0, 4, 5, 6] [] (fun vals_ w2 => ∃ (yb4__16 : journal_Journal) (Ab4__16_1 : Option Addr) (cb4__16_1 : Nat) (yb9__16 : List journal_record) (Ab9__16_1 : Option Addr) (cb9__16_1 : Nat) (L H : Gh), vals_ = [] ∧ J16_ yb4__16 yb9__16 ∧ Inv [] G w L H w2 ∧ Le L12_ L ∧ Le H12_ H ∧ Tok H w2 b4_ 46 ([.slice Ab4__16_1 yb4__16.book_.l_.length cb4__16_1, .map (some m3_), .pointer none, vi yb4__16.gen_, vi yb4__16.place_]) ∧ yb4__16.book_.l_.length ≤ cb4__16_1 ∧ Sl H Ab4__16_1 yb4__16.book_.l_ ∧ Tok H w2 b9_ 41 ([.slice Ab9__16_1 yb9__16.length cb9__16_1]) ∧ yb9__16.length ≤ cb9__16_1 ∧ Sl H Ab9__16_1 yb9__16 ∧ MTok H H w2 m3_ ([] : List (Int × Int)) ∧ Tok H w2 b5_ 26 ([.pointer (some ⟨b4_, 0, none⟩)]) ∧ True) (fun B_ b_ => ?_) (fun B_ b_ => ?_)
   ·
    simp only [e_, Nat.reduceAdd, Nat.reduceBEq] at b_
    subst b_
    clear hr16_
    have hll16_ := Le.refl L12_
    have hhh16_ := Le.refl H12_
    refine W_block ?_
    refine W_seq_k fun K17 k17 => ?_
    refine W_region [36, 37, 38, 35, 39, 40, 7, 8] rfl (Ops_step (R_move rfl) rfl rfl (Ops_step (R_move rfl) rfl rfl ?_))
    refine Ops_call (C_func bd44 rfl) rfl rfl ?_
    refine (disk_Disk_Read_v1_ok (x1 := x6_12) hI.st (hg.up hI.le)  h).mono ?_
    rintro _ w18_ ⟨A18_0, c18_0, r18_0, r18_1, L18_, H18_, rfl, hI18_, hc18_0, hs18_0, h⟩
    refine Exists.elim (hI.call hI18_ (by simp)) fun L180_ h18_ => ?_
    have hz18_ := hI.size
    replace hI := h18_.1
    have u18_ := h18_.2.1
    have hl18_ := h18_.2.2
    clear h18_
    replace hll10_ := hll10_.trans u18_.ll
    replace hhh10_ := hhh10_.trans u18_.hh
    replace ht3_ := ht3_.up u18_.hh u18_ (by simp)
    replace ht5_ := ht5_.up u18_ (by simp)
    replace htb4__12 := htb4__12.up u18_ (by simp)
    replace hsb4__12_1 := hsb4__12_1.up u18_.hh
    replace htb9__12 := htb9__12.up u18_ (by simp)
    replace hsb9__12_1 := hsb9__12_1.up u18_.hh
    replace hll12_ := hll12_.trans u18_.ll
    replace hhh12_ := hhh12_.trans u18_.hh
    replace hll16_ := hll16_.trans u18_.ll
    replace hhh16_ := hhh16_.trans u18_.hh
    replace hs18_0 := hs18_0.up hl18_
    clear hI18_ u18_ hl18_
    refine ⟨_, rfl, ?_⟩
    refine Ops_step (R_move rfl) rfl rfl ?_
    refine Ops_step (R_extract (v := .slice A18_0 r18_0.length c18_0) rfl rfl) rfl rfl ?_
    refine Ops_step (R_extract (v := vi r18_1) rfl rfl) rfl rfl ?_
    refine Ops_step (R_assign rfl) rfl rfl (Ops_step (R_assign rfl) rfl rfl ?_)
    refine Ops_nil ?_
    refine then_n (k17 _ _ ?_)
    clear k17 K17
    refine W_keepB [0, 4, 5, 6, 7, 8] fun B_ b_ => ?_
    simp only [e_, Nat.reduceAdd, Nat.reduceBEq] at b_
    subst b_
    refine W_seq_k fun K20 k20 => ?_
    refine W_seq_k fun K21 k21 => ?_
    refine W_region [41, 42] rfl (Ops_step (R_move rfl) rfl rfl (Ops_step (R_neq rfl rfl) rfl rfl ?_))
    refine Ops_nil ?_
    refine then_n (k21 _ _ ?_)
    clear k21 K21
    refine W_if rfl (fun hc22_ => ?_) (fun hc22_ => ?_)
    ·
     replace h := h.1 hc22_
     refine W_seq_k fun K23 k23 => ?_
     refine W_region [43, 2, 3] rfl (Ops_step (R_move rfl) rfl rfl (Ops_step (R_assign rfl) rfl rfl (Ops_step (R_assign rfl) rfl rfl ?_)))
     refine Ops_nil ?_
     refine then_n (k23 _ _ ?_)
     clear k23 K23
     refine W_keepB [2, 3] fun B_ b_ => ?_
     simp only [e_, Nat.reduceAdd, Nat.reduceBEq] at b_
     subst b_
     refine W_ret ?_
     refine then_ret ?_
     clear k20 K20
     refine block_ret ?_
     refine then_ret ?_
     refine then_ret ?_
     refine block_ret ?_
     refine then_ret ?_
     refine ⟨_, ⟨_, _, rfl, rfl, ⟨_, _, rfl, rfl, rfl⟩⟩, ?_⟩
     exact .inl ⟨r18_1, _, _, rfl, hI, h⟩
    ·
     replace h := h.2 hc22_
     refine W_skip ?_
     refine then_n (k20 _ _ ?_)
     clear k20 K20
     refine W_seq_k fun K25 k25 => ?_
     refine W_region [45, 46, 44, 47, 48, 49, 50, 51, 9, 10, 11, 12, 13] rfl (Ops_step (R_move rfl) rfl rfl ?_)
     refine Ops_call (C_func bd45 rfl) rfl rfl ?_
     refine (journal_opened_ok (x0 := r18_0) hI.st (hg.up hI.le) hc18_0 (hs18_0.up hI.sub) h).mono ?_
     rintro _ w26_ ⟨r26_0, r26_1, A26_2, c26_2, r26_2, r26_3, r26_4, L26_, H26_, rfl, hI26_, ho26_2, h⟩
     refine Exists.elim (hI.call hI26_ (by simp)) fun L260_ h26_ => ?_
     have hz26_ := hI.size
     replace hI := h26_.1
     have u26_ := h26_.2.1
     have hl26_ := h26_.2.2
     clear h26_
     replace hll10_ := hll10_.trans u26_.ll
     replace hhh10_ := hhh10_.trans u26_.hh
     replace ht3_ := ht3_.up u26_.hh u26_ (by simp)
     replace ht5_ := ht5_.up u26_ (by simp)
     replace htb4__12 := htb4__12.up u26_ (by simp)
     replace hsb4__12_1 := hsb4__12_1.up u26_.hh
     replace htb9__12 := htb9__12.up u26_ (by simp)
     replace hsb9__12_1 := hsb9__12_1.up u26_.hh
     replace hll12_ := hll12_.trans u26_.ll
     replace hhh12_ := hhh12_.trans u26_.hh
     replace hll16_ := hll16_.trans u26_.ll
     replace hhh16_ := hhh16_.trans u26_.hh
     replace ho26_2 := OwnS.back ho26_2 hz26_ hl26_ (Le.refl _)
     clear hI26_ u26_ hl26_
     refine ⟨_, rfl, ?_⟩
     refine Exists.elim (ho26_2.freeze hI) fun L27_ h27_ => Exists.elim h27_ fun H27_ h27_ => ?_
     replace hI := h27_.1
     have u27_ := h27_.2.1
     have hs27_ := h27_.2.2.1 (Le.refl _)
     have hc27_ := ho26_2.cap
     replace hll10_ := hll10_.trans u27_.ll
     replace hhh10_ := hhh10_.trans u27_.hh
     replace ht3_ := ht3_.up u27_.hh u27_ (ht3_.neO ho26_2)
     replace ht5_ := ht5_.up u27_ (ht5_.sep ho26_2 (by decide))
     replace htb4__12 := htb4__12.up u27_ (htb4__12.sep ho26_2 (by decide))
     replace hsb4__12_1 := hsb4__12_1.up u27_.hh
     replace htb9__12 := htb9__12.up u27_ (htb9__12.sep ho26_2 (by decide))
     replace hsb9__12_1 := hsb9__12_1.up u27_.hh
     replace hll12_ := hll12_.trans u27_.ll
     replace hhh12_ := hhh12_.trans u27_.hh
     replace hll16_ := hll16_.trans u27_.ll
     replace hhh16_ := hhh16_.trans u27_.hh
     clear h27_ u27_ ho26_2
     refine Ops_step (R_move rfl) rfl rfl ?_
     refine Ops_step (R_extract (v := vi r26_0) rfl rfl) rfl rfl ?_
     refine Ops_step (R_extract (v := vi r26_1) rfl rfl) rfl rfl ?_
     refine Ops_step (R_extract (v := .slice A26_2 r26_2.length c26_2) rfl rfl) rfl rfl ?_
     refine Ops_step (R_extract (v := .bool r26_3) rfl rfl) rfl rfl ?_
     refine Ops_step (R_extract (v := .bool r26_4) rfl rfl) rfl rfl ?_
     refine Ops_step (R_assign rfl) rfl rfl (Ops_step (R_assign rfl) rfl rfl (Ops_step (R_assign rfl) rfl rfl (Ops_step (R_assign rfl) rfl rfl (Ops_step (R_assign rfl) rfl rfl ?_))))
     refine Ops_nil ?_
     refine then_n (k25 _ _ ?_)
     clear k25 K25
     refine W_keepB [0, 4, 5, 6, 9, 10, 11, 12, 13] fun B_ b_ => ?_
     simp only [e_, Nat.reduceAdd, Nat.reduceBEq] at b_
     subst b_
     refine ex_ h fun J29_ hr29_ h => ?_
     refine W_seq_join [0, 4, 5, 6, 9, 11] [69] (fun vals_ w2 => ∃ (x69_29 : Bool) (L H : Gh), vals_ = [.bool x69_29] ∧ J29_ x69_29 ∧ Inv [] G w L H w2 ∧ Le L27_ L ∧ Le H27_ H ∧ MTok H H w2 m3_ ([] : List (Int × Int)) ∧ Tok H w2 b5_ 26 ([.pointer (some ⟨b4_, 0, none⟩)]) ∧ Tok H w2 b4_ 46 ([.slice Ab4__12_1 yb4__12.book_.l_.length cb4__12_1, .map (some m3_), .pointer none, vi yb4__12.gen_, vi yb4__12.place_]) ∧ Tok H w2 b9_ 41 ([.slice Ab9__12_1 yb9__12.length cb9__12_1]) ∧ True) (fun B_ b_ => ?_) (fun B_ b_ => ?_)
     ·
      simp only [e_, Nat.reduceAdd, Nat.reduceBEq] at b_
      subst b_
      clear hr29_
      have hll29_ := Le.refl L27_
      have hhh29_ := Le.refl H27_
      refine W_region [52, 53, 54, 55, 56, 57, 58, 59, 60, 61, 62, 63, 64, 65, 66, 67, 68, 69] rfl (Ops_step (R_move rfl) rfl rfl (Ops_step (R_move rfl) rfl rfl ?_))
      refine Ops_splitB 53 rfl (fun hg30_ => ?_) (fun hg30_ => ?_)
      ·
       replace h := h.1 hg30_
       refine Ops_step (R_move rfl) rfl rfl (Ops_step (R_pick_true rfl rfl) rfl rfl (Ops_step (R_move rfl) rfl rfl ?_))
       refine Ops_splitB 56 rfl (fun hg31_ => ?_) (fun hg31_ => ?_)
       ·
        replace h := h.1 hg31_
        refine Ops_step (R_move rfl) rfl rfl (Ops_step (R_move rfl) rfl rfl (Ops_step (R_len Try.underlying41 rfl rfl) rfl rfl (Ops_step (R_eql rfl rfl) rfl rfl (Ops_step (R_pick_true rfl rfl) rfl rfl ?_))))
        refine Ops_step (R_move rfl) rfl rfl ?_
        refine Ops_split 62 rfl (fun hg32_ => ?_) (fun hg32_ => ?_)
        ·
         replace h := h.1 hg32_
         refine Ops_step (R_move rfl) rfl rfl ?_
         refine Ops_step (R_loadB (v := .pointer (some ⟨b4_, 0, none⟩)) ag26 rfl ht5_.blk rfl) rfl rfl ?_
         refine Ops_step (R_nilCheck rfl) rfl rfl (Ops_step (R_fieldAddr fo46_2 rfl) rfl rfl ?_)
         refine Ops_step (R_loadB (v := vi yb4__12.gen_) ag3 rfl htb4__12.blk rfl) rfl rfl ?_
         refine Ops_step (R_gtr rfl rfl) rfl rfl (Ops_step (R_pick_true rfl rfl) rfl rfl ?_)
         refine Ops_nil ?_
         refine then_n ?_
         exact ⟨_, rfl, ⟨(decide (r26_0 > yb4__12.gen_)), _, _, rfl, h, hI, hll29_, hhh29_, ht3_, ht5_, htb4__12, htb9__12, trivial⟩, ⟨rfl, rfl, rfl, rfl, rfl, rfl, trivial⟩⟩
        ·
         replace h := h.2 hg32_
         refine Ops_pass rfl rfl (Ops_pass rfl rfl (Ops_pass rfl rfl (Ops_pass rfl rfl (Ops_pass rfl rfl ?_))))
         refine Ops_pass rfl rfl (Ops_step (R_pick_false rfl rfl) rfl rfl ?_)
         refine Ops_nil ?_
         refine then_n ?_
         exact ⟨_, rfl, ⟨false, _, _, rfl, h, hI, hll29_, hhh29_, ht3_, ht5_, htb4__12, htb9__12, trivial⟩, ⟨rfl, rfl, rfl, rfl, rfl, rfl, trivial⟩⟩
       ·
        replace h := h.2 hg31_
        refine Ops_pass rfl rfl (Ops_pass rfl rfl (Ops_pass rfl rfl (Ops_pass rfl rfl (Ops_step (R_pick_false rfl rfl) rfl rfl ?_))))
        refine Ops_step (R_move rfl) rfl rfl (Ops_pass rfl rfl (Ops_pass rfl rfl (Ops_pass rfl rfl (Ops_pass rfl rfl ?_))))
        refine Ops_pass rfl rfl (Ops_pass rfl rfl (Ops_step (R_pick_false rfl rfl) rfl rfl ?_))
        refine Ops_nil ?_
        refine then_n ?_
        exact ⟨_, rfl, ⟨false, _, _, rfl, h, hI, hll29_, hhh29_, ht3_, ht5_, htb4__12, htb9__12, trivial⟩, ⟨rfl, rfl, rfl, rfl, rfl, rfl, trivial⟩⟩
      ·
       replace h := h.2 hg30_
       refine Ops_pass rfl rfl (Ops_step (R_pick_false rfl rfl) rfl rfl (Ops_step (R_move rfl) rfl rfl (Ops_pass rfl rfl (Ops_pass rfl rfl ?_))))
       refine Ops_pass rfl rfl (Ops_pass rfl rfl (Ops_step (R_pick_false rfl rfl) rfl rfl (Ops_step (R_move rfl) rfl rfl (Ops_pass rfl rfl ?_))))
       refine Ops_pass rfl rfl (Ops_pass rfl rfl (Ops_pass rfl rfl (Ops_pass rfl rfl (Ops_pass rfl rfl ?_))))
       refine Ops_step (R_pick_false rfl rfl) rfl rfl ?_
       refine Ops_nil ?_
       refine then_n ?_
       exact ⟨_, rfl, ⟨false, _, _, rfl, h, hI, hll29_, hhh29_, ht3_, ht5_, htb4__12, htb9__12, trivial⟩, ⟨rfl, rfl, rfl, rfl, rfl, rfl, trivial⟩⟩
     ·
      simp only [e_, Nat.reduceAdd, Nat.reduceBEq] at b_
      subst b_
      clear h
      clear ht3_
      clear ht5_
      clear htb4__12
      clear htb9__12
      rintro _ w29_ ⟨x69_29, L29_, H29_, rfl, hJ29_, hI29_, hll29_, hhh29_, ht3_, ht5_, htb4__12, htb9__12, -⟩
      replace hI := hI29_
      clear hI29_
      have h := hr29_ x69_29 hJ29_
      clear hr29_ hJ29_
      replace hll10_ := hll10_.trans hll29_
      replace hhh10_ := hhh10_.trans hhh29_
      replace hsb4__12_1 := hsb4__12_1.up hhh29_
      replace hsb9__12_1 := hsb9__12_1.up hhh29_
      replace hll12_ := hll12_.trans hll29_
      replace hhh12_ := hhh12_.trans hhh29_
      replace hll16_ := hll16_.trans hll29_
      replace hhh16_ := hhh16_.trans hhh29_
      replace hs27_ := hs27_.up hll29_
      refine W_cond rfl (fun hc33_ => ?_) (fun hc33_ => ?_)
      ·
       replace h := h.1 hc33_
       refine W_drawF [70, 71, 72, 73, 74, 75, 76, none, 77, 78, none, none] [(0, true), (1, true), (2, true), (3, true), (4, true), (5, true), (6, true), (7, false), (8, true), (9, true), (10, false), (11, false)] TJtL.hm rfl (by kernel_rfl) fun ops34_ w34_ hops34_ hF34_ => ?_
       replace hI := hI.fr0 hF34_
       replace ht3_ := ht3_.fr0 hF34_
       replace ht5_ := ht5_.fr0 hF34_
       replace htb4__12 := htb4__12.fr0 hF34_
       replace htb9__12 := htb9__12.fr0 hF34_
       clear hF34_
       refine HS_loadB (v := .pointer (some ⟨b4_, 0, none⟩)) ag26 rfl ht5_.blk rfl rfl rfl ?_
       refine HS_loadB (v := .pointer (some ⟨b4_, 0, none⟩)) ag26 rfl ht5_.blk rfl rfl rfl ?_
       refine HSp (R_move rfl) rfl rfl (HSp (R_move rfl) rfl rfl (HSp (R_move rfl) rfl rfl (HSp (R_nilCheck rfl) rfl rfl (HSp (R_fieldAddr fo46_2 rfl) rfl rfl ?_))))
       refine HS_to0 [1] _ rfl (by rw [hops34_]; kernel_rfl) (R_store sz3 rfl rfl htb4__12.blk (by show 3 < 5; decide) rfl) rfl ?_
       rintro _ w35_ ⟨hB35_, hF35_⟩
       replace hI := hI.tok hF35_ (out1 htb4__12.out) (new1 hge_b4_)
       replace ht3_ := ht3_.fr hF35_ (ht3_.neT htb4__12)
       replace ht5_ := ht5_.fr hF35_ (ht5_.apart htb4__12 (by decide))
       replace htb9__12 := htb9__12.fr hF35_ (htb9__12.apart htb4__12 (by decide))
       replace htb4__12 : Tok H29_ _ b4_ 46 ([.slice Ab4__12_1 yb4__12.book_.l_.length cb4__12_1, .map (some m3_), .pointer none, vi r26_0, vi yb4__12.place_]) := ⟨hB35_, htb4__12.out⟩
       clear hF35_ hB35_
       refine ⟨⟨(ht5_.blk.at_ rfl), trivial⟩, ?_⟩
       refine HSp (R_nilCheck rfl) rfl rfl (HSp (R_fieldAddr fo46_3 rfl) rfl rfl ?_)
       refine HS_to0 [] _ rfl (by rw [hops34_]; kernel_rfl) (R_store sz3 rfl rfl htb4__12.blk (by show 4 < 5; decide) rfl) rfl ?_
       rintro _ w36_ ⟨hB36_, hF36_⟩
       replace hI := hI.tok hF36_ (out1 htb4__12.out) (new1 hge_b4_)
       replace ht3_ := ht3_.fr hF36_ (ht3_.neT htb4__12)
       replace ht5_ := ht5_.fr hF36_ (ht5_.apart htb4__12 (by decide))
       replace htb9__12 := htb9__12.fr hF36_ (htb9__12.apart htb4__12 (by decide))
       replace htb4__12 : Tok H29_ _ b4_ 46 ([.slice Ab4__12_1 yb4__12.book_.l_.length cb4__12_1, .map (some m3_), .pointer none, vi r26_0, vi x6_12]) := ⟨hB36_, htb4__12.out⟩
       clear hF36_ hB36_
       refine ⟨trivial, ?_⟩
       refine HS_to0 [] _ rfl (by rw [hops34_]; kernel_rfl) (R_store sz41 rfl rfl htb9__12.blk (by show 0 < 1; decide) rfl) rfl ?_
       rintro _ w37_ ⟨hB37_, hF37_⟩
       replace hI := hI.tok hF37_ (out1 htb9__12.out) (new1 hge_b9_)
       replace ht3_ := ht3_.fr hF37_ (ht3_.neT htb9__12)
       replace ht5_ := ht5_.fr hF37_ (ht5_.apart htb9__12 (by decide))
       replace htb4__12 := htb4__12.fr hF37_ (htb4__12.apart htb9__12 (by decide))
       replace htb9__12 : Tok H29_ _ b9_ 41 ([.slice A26_2 r26_2.length c26_2]) := ⟨hB37_, htb9__12.out⟩
       clear hF37_ hB37_
       refine ⟨trivial, ?_⟩
       refine HS_nil ?_
       clear hops34_
       refine block_n ?_
       refine then_n ?_
       exact ⟨_, rfl, ⟨(journal_Journal.mk yb4__12.book_ r26_0 x6_12), Ab4__12_1, cb4__12_1, r26_2, A26_2, c26_2, _, _, rfl, h, hI, hll16_, hhh16_, htb4__12, hcb4__12_1, hsb4__12_1, htb9__12, hc27_, (hs27_.up hI.sub), ht3_, ht5_, trivial⟩, ⟨rfl, rfl, rfl, rfl, trivial⟩⟩
      ·
       replace h := h.2 hc33_
       refine W_skip ?_
       refine block_n ?_
       refine then_n ?_
       exact ⟨_, rfl, ⟨yb4__12, Ab4__12_1, cb4__12_1, yb9__12, Ab9__12_1, cb9__12_1, _, _, rfl, h, hI, hll16_, hhh16_, htb4__12, hcb4__12_1, hsb4__12_1, htb9__12, hcb9__12_1, hsb9__12_1, ht3_, ht5_, trivial⟩, ⟨rfl, rfl, rfl, rfl, trivial⟩⟩
   ·
    simp only [e_, Nat.reduceAdd, Nat.reduceBEq] at b_
    subst b_
    clear h
    clear ht3_
    clear ht5_
    rintro _ w16_ ⟨yb4__16, Ab4__16_1, cb4__16_1, yb9__16, Ab9__16_1, cb9__16_1, L16_, H16_, rfl, hJ16_, hI16_, hll16_, hhh16_, htb4__16, hcb4__16_1, hsb4__16_1, htb9__16, hcb9__16_1, hsb9__16_1, ht3_, ht5_, -⟩
    replace hI := hI16_
    clear hI16_
    have h := hr16_ yb4__16 yb9__16 hJ16_
    clear hr16_ hJ16_
    replace hll10_ := hll10_.trans hll16_
    replace hhh10_ := hhh10_.trans hhh16_
    replace hll12_ := hll12_.trans hll16_
    replace hhh12_ := hhh12_.trans hhh16_
    refine W_region [33, 34, 6] rfl (Ops_step (R_move rfl) rfl rfl ?_)
    have hk38_ := h.1
    replace h := h.2
    refine Ops_step (R_add rfl rfl (wI hk38_.1 hk38_.2)) rfl rfl (Ops_step (R_assign rfl) rfl rfl ?_)
    refine Ops_nil ?_
    refine then_n ?_
    exact h.elim fun m_ h => ⟨m_, _, h.1, rfl, ⟨(x6_12 + 1), yb4__16, Ab4__16_1, cb4__16_1, yb9__16, Ab9__16_1, cb9__16_1, _, _, rfl, h.2, hI, hll12_, hhh12_, htb4__16, hcb4__16_1, hsb4__16_1, htb9__16, hcb9__16_1, hsb9__16_1, ht3_, ht5_, trivial⟩, ⟨rfl, rfl, rfl, trivial⟩⟩
  ·
   replace h := h.2 hc15_
   refine W_exit ?_
   refine then_exit ?_
   clear k13 K13
   refine then_exit ?_
   refine block_exit ?_
   refine then_n ?_
   exact ⟨_, rfl, ⟨yb4__12, Ab4__12_1, cb4__12_1, yb9__12, Ab9__12_1, cb9__12_1, _, _, rfl, h, hI, hll10_, hhh10_, htb4__12, hcb4__12_1, hsb4__12_1, htb9__12, hcb9__12_1, hsb9__12_1, ht3_, ht5_, trivial⟩, ⟨rfl, rfl, rfl, trivial⟩⟩
 ·
  simp only [e_, Nat.reduceAdd, Nat.reduceBEq] at b_
  subst b_
  clear h
  clear ht3_
  clear ht5_
  rintro _ w10_ ⟨yb4__10, Ab4__10_1, cb4__10_1, yb9__10, Ab9__10_1, cb9__10_1, L10_, H10_, rfl, hJ10_, hI10_, hll10_, hhh10_, htb4__10, hcb4__10_1, hsb4__10_1, htb9__10, hcb9__10_1, hsb9__10_1, ht3_, ht5_, -⟩
  replace hI := hI10_
  clear hI10_
  have h := hr10_ yb4__10 yb9__10 hJ10_
  clear hr10_ hJ10_
  refine ex_ h fun J39_ hr39_ h => ?_
  refine W_seq_join [0, 4, 5] [] (fun vals_ w2 => ∃ (yb4__39 : journal_Journal) (Ab4__39_1 : Option Addr) (cb4__39_1 : Nat) (ym3__39 : List (Int × Int)) (L H : Gh), vals_ = [] ∧ J39_ yb4__39 ym3__39 ∧ Inv [] G w L H w2 ∧ Le L10_ L ∧ Le H10_ H ∧ Tok H w2 b4_ 46 ([.slice Ab4__39_1 yb4__39.book_.l_.length cb4__39_1, .map (some m3_), .pointer none, vi yb4__39.gen_, vi yb4__39.place_]) ∧ yb4__39.book_.l_.length ≤ cb4__39_1 ∧ Sl H Ab4__39_1 yb4__39.book_.l_ ∧ MTok H H w2 m3_ ym3__39 ∧ Tok H w2 b5_ 26 ([.pointer (some ⟨b4_, 0, none⟩)]) ∧ Tok H w2 b9_ 41 ([.slice Ab9__10_1 yb9__10.length cb9__10_1]) ∧ True) (fun B_ b_ => ?_) (fun B_ b_ => ?_)
  ·
   simp only [e_, Nat.reduceAdd, Nat.reduceBEq] at b_
   subst b_
   clear hr39_
   have hll39_ := Le.refl L10_
   have hhh39_ := Le.refl H10_
   refine W_seq_k fun K40 k40 => ?_
   refine W_region [79, 80, 81] rfl ?_
   refine Ops_step (R_loadB (v := .slice Ab9__10_1 yb9__10.length cb9__10_1) ag41 rfl htb9__10.blk rfl) rfl rfl ?_
   refine Ops_step (R_len Try.underlying41 rfl rfl) rfl rfl (Ops_step (R_move rfl) rfl rfl ?_)
   refine Ops_nil ?_
   refine then_n (k40 _ _ ?_)
   clear k40 K40
   refine W_block ?_
   refine Exists.elim h fun I41_ h => Exists.elim h fun n41_ h => ?_
   have h0_ := h.1
   have hs41_ := h.2
   clear h
   refine W_loopB [0, 4, 5, 79, 80] [81] (fun m vals_ w2 => ∃ (x81_41 : Int) (yb4__41 : journal_Journal) (Ab4__41_1 : Option Addr) (cb4__41_1 : Nat) (ym3__41 : List (Int × Int)) (L H : Gh), vals_ = [vi x81_41] ∧ I41_ m x81_41 yb4__41 ym3__41 ∧ Inv [] G w L H w2 ∧ Le L10_ L ∧ Le H10_ H ∧ Tok H w2 b4_ 46 ([.slice Ab4__41_1 yb4__41.book_.l_.length cb4__41_1, .map (some m3_), .pointer none, vi yb4__41.gen_, vi yb4__41.place_]) ∧ yb4__41.book_.l_.length ≤ cb4__41_1 ∧ Sl H Ab4__41_1 yb4__41.book_.l_ ∧ MTok H H w2 m3_ ym3__41 ∧ Tok H w2 b5_ 26 ([.pointer (some ⟨b4_, 0, none⟩)]) ∧ Tok H w2 b9_ 41 ([.slice Ab9__10_1 yb9__10.length cb9__10_1]) ∧ True) n41_ _ rfl ⟨0, yb4__10, Ab4__10_1, cb4__10_1, ([] : List (Int × Int)), _, _, rfl, h0_, hI, Le.refl _, Le.refl _, htb4__10, hcb4__10_1, hsb4__10_1, ht3_, ht5_, htb9__10, trivial⟩ fun B_ b_ => ?_
   clear h0_
   simp only [e_, Nat.reduceAdd, Nat.reduceBEq] at b_
   subst b_
   clear ht5_
   clear htb9__10
   rintro m41_ _ w41_ ⟨x81_41, yb4__41, Ab4__41_1, cb4__41_1, ym3__41, L41_, H41_, rfl, hJ41_, hI41_, hll41_, hhh41_, htb4__41, hcb4__41_1, hsb4__41_1, htm3__41, ht5_, htb9__10, -⟩
   replace hI := hI41_
   clear hI41_
   have h := hs41_ m41_ x81_41 yb4__41 ym3__41 hJ41_
   clear hs41_ hJ41_
   replace hsb9__10_1 := hsb9__10_1.up hhh41_
   replace hll39_ := hll39_.trans hll41_
   replace hhh39_ := hhh39_.trans hhh41_
   refine W_seq_k fun K42 k42 => ?_
   refine W_region [82] rfl (Ops_step (R_lss rfl rfl) rfl rfl ?_)
   refine Ops_nil ?_
   refine then_n (k42 _ _ ?_)
   clear k42 K42
   refine W_seq_k fun K43 k43 => ?_
   refine W_if rfl (fun hc44_ => ?_) (fun hc44_ => ?_)
   ·
    replace h := h.1 hc44_
    refine W_skip ?_
    refine then_n (k43 _ _ ?_)
    clear k43 K43
    refine W_seq_k fun K45 k45 => ?_
    refine W_block ?_
    refine W_seq_k fun K46 k46 => ?_
    refine W_region [83, 84, 15, none] rfl ?_
    refine ex_ h fun x47_ hx47_ h => ?_
    have ha47_ := (Sl.atN (n := 2) rfl (by decide) hsb9__10_1 hx47_).1
    refine Exists.elim (Sl.atN (n := 2) rfl (by decide) hsb9__10_1 hx47_).2 fun l47_ hA47_ => ?_
    have hr47_ := hA47_.1
    have hg47_ := hA47_.2
    clear hA47_
    refine Ops_step (R_indexSl Try.underlying41 sz85 rfl rfl hx47_.1 hx47_.lt ha47_) rfl rfl ?_
    obtain ⟨A47_1, c47_1, rfl, ⟨hc47_1, hs47_1⟩⟩ := hr47_
    refine Ops_step (R_loadCs (cs := [vi x47_.label_, .slice A47_1 x47_.data_.length c47_1]) ag85 sz85 rfl (fun j_ v_ hv_ => hI.st _ _ (hg47_ j_ v_ hv_))) rfl rfl ?_
    have hI0_ := hI
    refine Ops_to (R_alloc zr85) rfl rfl ?_
    rintro _ w48_ ⟨b48_, rfl, hb48_, hB48_, hF48_⟩
    replace hI := hI.fr0 hF48_
    replace ht5_ := ht5_.fr0 hF48_
    replace htb9__10 := htb9__10.fr0 hF48_
    replace htb4__41 := htb4__41.fr0 hF48_
    replace htm3__41 := htm3__41.fr0 hF48_
    have ht48_ : Tok H41_ _ b48_ 85 ([vi 0, .slice none 0 0]) := ⟨hB48_.to rfl, Out.ge hI0_.st (Nat.le_of_eq hb48_.symm)⟩
    have hge_b48_ : w.heap.size ≤ b48_ := hb48_ ▸ hI0_.size
    clear hB48_ hb48_ hI0_ hF48_
    refine Ops_to0 (R_storeN sz85 rfl rfl rfl ht48_.blk (Nat.le_of_ble_eq_true rfl) rfl) rfl ?_
    rintro _ w49_ ⟨hB49_, hF49_⟩
    replace hI := hI.tok hF49_ (out1 ht48_.out) (new1 hge_b48_)
    replace ht5_ := ht5_.fr hF49_ (ht5_.apart ht48_ (by decide))
    replace htb9__10 := htb9__10.fr hF49_ (htb9__10.apart ht48_ (by decide))
    replace htb4__41 := htb4__41.fr hF49_ (htb4__41.apart ht48_ (by decide))
    replace htm3__41 := htm3__41.fr hF49_ (htm3__41.neT ht48_)
    replace ht48_ : Tok H41_ _ b48_ 85 ([vi x47_.label_, .slice A47_1 x47_.data_.length c47_1]) := ⟨hB49_, ht48_.out⟩
    clear hF49_ hB49_
    refine Ops_nil ?_
    refine then_n (k46 _ _ ?_)
    clear k46 K46
    refine W_drawF [85, 86, 87, 88, 89] [(0, true), (1, true), (2, true), (3, true), (4, false)] TJtL.hm rfl (by kernel_rfl) fun ops50_ w50_ hops50_ hF50_ => ?_
    replace hI := hI.fr0 hF50_
    replace ht5_ := ht5_.fr0 hF50_
    replace htb9__10 := htb9__10.fr0 hF50_
    replace htb4__41 := htb4__41.fr0 hF50_
    replace htm3__41 := htm3__41.fr0 hF50_
    replace ht48_ := ht48_.fr0 hF50_
    clear hF50_
    refine HS_loadB (v := .pointer (some ⟨b4_, 0, none⟩)) ag26 rfl ht5_.blk rfl rfl rfl ?_
    refine HSp (R_nilCheck rfl) rfl rfl (HSp (R_fieldAddr fo46_0 rfl) rfl rfl ?_)
    refine HS_loadN ag85 sz85 rfl ht48_.blk (Nat.le_of_ble_eq_true rfl) rfl rfl ?_
    refine HS_call [] _ rfl (by rw [hops50_]; kernel_rfl) (C_func bd43 rfl) rfl rfl ?_
    refine (journal_book_add_v2_ok (x1 := x47_) (z0 := yb4__41) (z1 := ym3__41) hI.st (hg.up hI.le) htm3__41 htb4__41 hcb4__41_1 hsb4__41_1 ⟨A47_1, c47_1, rfl, ⟨hc47_1, hs47_1⟩⟩ h).mono ?_
    rintro _ w51_ ⟨y51_o0, A51_o0_1, c51_o0_1, y51_o1, L51_, H51_, rfl, hI51_, ht51_o0, hc51_o0_1, hs51_o0_1, ht51_o1, h⟩
    refine Exists.elim (hI.call hI51_ (memG hge_b4_ (memG hge_m3_ memN))) fun L510_ h51_ => ?_
    have hz51_ := hI.size
    replace hI := h51_.1
    have u51_ := h51_.2.1
    have hl51_ := h51_.2.2
    clear h51_
    replace hsb9__10_1 := hsb9__10_1.up u51_.hh
    replace hll39_ := hll39_.trans u51_.ll
    replace hhh39_ := hhh39_.trans u51_.hh
    replace ht5_ := ht5_.up u51_ (niA (ht5_.apart htb4__41 (by decide)) (niA (ht5_.neM htm3__41) List.not_mem_nil))
    replace htb9__10 := htb9__10.up u51_ (niA (htb9__10.apart htb4__41 (by decide)) (niA (htb9__10.neM htm3__41) List.not_mem_nil))
    replace hsb4__41_1 := hsb4__41_1.up u51_.hh
    replace hll41_ := hll41_.trans u51_.ll
    replace hhh41_ := hhh41_.trans u51_.hh
    replace ht48_ := ht48_.up u51_ (niA (ht48_.apart htb4__41 (by decide)) (niA (ht48_.neM htm3__41) List.not_mem_nil))
    clear htb4__41
    clear htm3__41
    clear hI51_ u51_ hl51_
    refine ⟨_, rfl, trivial, ?_⟩
    refine HS_nil ?_
    clear hops50_
    refine block_n ?_
    refine then_n (k45 _ _ ?_)
    clear k45 K45
    refine W_keepB [0, 4, 5, 79, 80, 81] fun B_ b_ => ?_
    simp only [e_, Nat.reduceAdd, Nat.reduceBEq] at b_
    subst b_
    refine W_region [90, 81] rfl ?_
    have hk53_ := h.1
    replace h := h.2
    refine Ops_step (R_add rfl rfl (wI hk53_.1 hk53_.2)) rfl rfl (Ops_step (R_move rfl) rfl rfl ?_)
    refine Ops_nil ?_
    refine then_n ?_
    exact h.elim fun m_ h => ⟨m_, _, h.1, rfl, ⟨(x81_41 + 1), y51_o0, A51_o0_1, c51_o0_1, y51_o1, _, _, rfl, h.2, hI, hll41_, hhh41_, ht51_o0, hc51_o0_1, hs51_o0_1, ht51_o1, ht5_, htb9__10, trivial⟩, ⟨rfl, rfl, rfl, rfl, rfl, trivial⟩⟩
   ·
    replace h := h.2 hc44_
    refine W_exit ?_
    refine then_exit ?_
    clear k43 K43
    refine then_exit ?_
    refine block_exit ?_
    refine then_n ?_
    exact ⟨_, rfl, ⟨yb4__41, Ab4__41_1, cb4__41_1, ym3__41, _, _, rfl, h, hI, hll39_, hhh39_, htb4__41, hcb4__41_1, hsb4__41_1, htm3__41, ht5_, htb9__10, trivial⟩, ⟨rfl, rfl, rfl, trivial⟩⟩
  ·
   simp only [e_, Nat.reduceAdd, Nat.reduceBEq] at b_
   subst b_
   clear h
   clear ht5_
   clear htb9__10
   rintro _ w39_ ⟨yb4__39, Ab4__39_1, cb4__39_1, ym3__39, L39_, H39_, rfl, hJ39_, hI39_, hll39_, hhh39_, htb4__39, hcb4__39_1, hsb4__39_1, htm3__39, ht5_, htb9__10, -⟩
   replace hI := hI39_
   clear hI39_
   have h := hr39_ yb4__39 ym3__39 hJ39_
   clear hr39_ hJ39_
   replace hsb9__10_1 := hsb9__10_1.up hhh39_
   refine W_seq_k fun K54 k54 => ?_
   refine W_region [92, 93, 91, 94, 95, 16, 17] rfl (Ops_step (R_move rfl) rfl rfl ?_)
   refine Ops_call (C_func bd44 rfl) rfl rfl ?_
   refine (disk_Disk_Read_v1_ok (x1 := 0) hI.st (hg.up hI.le)  h).mono ?_
   rintro _ w55_ ⟨A55_0, c55_0, r55_0, r55_1, L55_, H55_, rfl, hI55_, hc55_0, hs55_0, h⟩
   refine Exists.elim (hI.call hI55_ (by simp)) fun L550_ h55_ => ?_
   have hz55_ := hI.size
   replace hI := h55_.1
   have u55_ := h55_.2.1
   have hl55_ := h55_.2.2
   clear h55_
   replace hsb9__10_1 := hsb9__10_1.up u55_.hh
   replace ht5_ := ht5_.up u55_ (by simp)
   replace htb9__10 := htb9__10.up u55_ (by simp)
   replace htb4__39 := htb4__39.up u55_ (by simp)
   replace hsb4__39_1 := hsb4__39_1.up u55_.hh
   replace htm3__39 := htm3__39.up u55_.hh u55_ (by simp)
   replace hs55_0 := hs55_0.up hl55_
   clear hI55_ u55_ hl55_
   refine ⟨_, rfl, ?_⟩
   refine Ops_step (R_move rfl) rfl rfl ?_
   refine Ops_step (R_extract (v := .slice A55_0 r55_0.length c55_0) rfl rfl) rfl rfl ?_
   refine Ops_step (R_extract (v := vi r55_1) rfl rfl) rfl rfl ?_
   refine Ops_step (R_assign rfl) rfl rfl (Ops_step (R_assign rfl) rfl rfl ?_)
   refine Ops_nil ?_
   refine then_n (k54 _ _ ?_)
   clear k54 K54
   refine W_keepB [4, 5, 16, 17] fun B_ b_ => ?_
   simp only [e_, Nat.reduceAdd, Nat.reduceBEq] at b_
   subst b_
   refine W_seq_k fun K57 k57 => ?_
   refine W_seq_k fun K58 k58 => ?_
   refine W_region [96, 97] rfl (Ops_step (R_move rfl) rfl rfl (Ops_step (R_neq rfl rfl) rfl rfl ?_))
   refine Ops_nil ?_
   refine then_n (k58 _ _ ?_)
   clear k58 K58
   refine W_if rfl (fun hc59_ => ?_) (fun hc59_ => ?_)
   ·
    replace h := h.1 hc59_
    refine W_seq_k fun K60 k60 => ?_
    refine W_region [98, 2, 3] rfl (Ops_step (R_move rfl) rfl rfl (Ops_step (R_assign rfl) rfl rfl (Ops_step (R_assign rfl) rfl rfl ?_)))
    refine Ops_nil ?_
    refine then_n (k60 _ _ ?_)
    clear k60 K60
    refine W_keepB [2, 3] fun B_ b_ => ?_
    simp only [e_, Nat.reduceAdd, Nat.reduceBEq] at b_
    subst b_
    refine W_ret ?_
    refine then_ret ?_
    clear k57 K57
    refine ⟨_, ⟨_, _, rfl, rfl, ⟨_, _, rfl, rfl, rfl⟩⟩, ?_⟩
    exact .inl ⟨r55_1, _, _, rfl, hI, h⟩
   ·
    replace h := h.2 hc59_
    refine W_skip ?_
    refine then_n (k57 _ _ ?_)
    clear k57 K57
    refine W_seq_k fun K62 k62 => ?_
    refine W_region [100, 101, 102, 99, 103, 104, 105, 106, 107, 18, 19, 20, 21, 22] rfl (Ops_step (R_move rfl) rfl rfl (Ops_step (R_makeFunc2 rfl rfl) rfl rfl ?_))
    refine Ops_call (C_func bd45 rfl) rfl rfl ?_
    refine (journal_opened_v2_ok (x0 := r55_0) (z0 := yb9__10) (z1 := ()) (z2 := yb4__39) (z3 := ym3__39) hI.st (hg.up hI.le) hc55_0 (hs55_0.up hI.sub) htb9__10 hcb9__10_1 hsb9__10_1 htm3__39 htb4__39 hcb4__39_1 hsb4__39_1 ht5_ h).mono ?_
    rintro _ w63_ ⟨r63_0, r63_1, A63_2, c63_2, r63_2, r63_3, r63_4, L63_, H63_, rfl, hI63_, ho63_2, h⟩
    refine Exists.elim (hI.call hI63_ (by simp)) fun L630_ h63_ => ?_
    have hz63_ := hI.size
    replace hI := h63_.1
    have u63_ := h63_.2.1
    have hl63_ := h63_.2.2
    clear h63_
    replace hsb9__10_1 := hsb9__10_1.up u63_.hh
    replace ht5_ := ht5_.up u63_ (by simp)
    replace htb9__10 := htb9__10.up u63_ (by simp)
    replace htb4__39 := htb4__39.up u63_ (by simp)
    replace hsb4__39_1 := hsb4__39_1.up u63_.hh
    replace htm3__39 := htm3__39.up u63_.hh u63_ (by simp)
    replace ho63_2 := OwnS.back ho63_2 hz63_ hl63_ (Le.refl _)
    clear hI63_ u63_ hl63_
    refine ⟨_, rfl, ?_⟩
    refine Exists.elim (ho63_2.freeze hI) fun L64_ h64_ => Exists.elim h64_ fun H64_ h64_ => ?_
    replace hI := h64_.1
    have u64_ := h64_.2.1
    have hs64_ := h64_.2.2.1 (Le.refl _)
    have hc64_ := ho63_2.cap
    replace ht5_ := ht5_.up u64_ (ht5_.sep ho63_2 (by decide))
    replace htb4__39 := htb4__39.up u64_ (htb4__39.sep ho63_2 (by decide))
    replace hsb4__39_1 := hsb4__39_1.up u64_.hh
    replace htm3__39 := htm3__39.up u64_.hh u64_ (htm3__39.neO ho63_2)
    clear h64_ u64_ ho63_2
    refine Ops_step (R_move rfl) rfl rfl ?_
    refine Ops_step (R_extract (v := vi r63_0) rfl rfl) rfl rfl ?_
    refine Ops_step (R_extract (v := vi r63_1) rfl rfl) rfl rfl ?_
    refine Ops_step (R_extract (v := .slice A63_2 r63_2.length c63_2) rfl rfl) rfl rfl ?_
    refine Ops_step (R_extract (v := .bool r63_3) rfl rfl) rfl rfl ?_
    refine Ops_step (R_extract (v := .bool r63_4) rfl rfl) rfl rfl ?_
    refine Ops_step (R_assign rfl) rfl rfl (Ops_step (R_assign rfl) rfl rfl (Ops_step (R_assign rfl) rfl rfl (Ops_step (R_assign rfl) rfl rfl (Ops_step (R_assign rfl) rfl rfl ?_))))
    refine Ops_nil ?_
    refine then_n (k62 _ _ ?_)
    clear k62 K62
    refine W_keepB [4, 20, 21, 22] fun B_ b_ => ?_
    simp only [e_, Nat.reduceAdd, Nat.reduceBEq] at b_
    subst b_
    refine ex_ h fun J66_ hr66_ h => ?_
    refine W_seq_join [4, 21, 22] [] (fun vals_ w2 => ∃ (yb4__66 : journal_Journal) (Ab4__66_1 : Option Addr) (cb4__66_1 : Nat) (ym3__66 : List (Int × Int)) (L H : Gh), vals_ = [] ∧ J66_ yb4__66 ym3__66 ∧ Inv [] G w L H w2 ∧ Le L64_ L ∧ Le H64_ H ∧ Tok H w2 b4_ 46 ([.slice Ab4__66_1 yb4__66.book_.l_.length cb4__66_1, .map (some m3_), .pointer none, vi yb4__66.gen_, vi yb4__66.place_]) ∧ yb4__66.book_.l_.length ≤ cb4__66_1 ∧ Sl H Ab4__66_1 yb4__66.book_.l_ ∧ MTok H H w2 m3_ ym3__66 ∧ Tok H w2 b5_ 26 ([.pointer (some ⟨b4_, 0, none⟩)]) ∧ True) (fun B_ b_ => ?_) (fun B_ b_ => ?_)
    ·
     simp only [e_, Nat.reduceAdd, Nat.reduceBEq] at b_
     subst b_
     clear hr66_
     have hll66_ := Le.refl L64_
     have hhh66_ := Le.refl H64_
     refine W_seq_k fun K67 k67 => ?_
     refine W_region [108] rfl (Ops_step (R_move rfl) rfl rfl ?_)
     refine Ops_nil ?_
     refine then_n (k67 _ _ ?_)
     clear k67 K67
     refine W_cond rfl (fun hc68_ => ?_) (fun hc68_ => ?_)
     ·
      replace h := h.1 hc68_
      refine W_seq_k fun K69 k69 => ?_
      refine W_region [109, 110, 111] rfl (Ops_step (R_move rfl) rfl rfl (Ops_step (R_len Try.underlying41 rfl rfl) rfl rfl (Ops_step (R_move rfl) rfl rfl ?_)))
      refine Ops_nil ?_
      refine then_n (k69 _ _ ?_)
      clear k69 K69
      refine W_block ?_
      refine Exists.elim h fun I70_ h => Exists.elim h fun n70_ h => ?_
      have h0_ := h.1
      have hs70_ := h.2
      clear h
      refine W_loopB [4, 21, 22, 109, 110] [111] (fun m vals_ w2 => ∃ (x111_70 : Int) (yb4__70 : journal_Journal) (Ab4__70_1 : Option Addr) (cb4__70_1 : Nat) (ym3__70 : List (Int × Int)) (L H : Gh), vals_ = [vi x111_70] ∧ I70_ m x111_70 yb4__70 ym3__70 ∧ Inv [] G w L H w2 ∧ Le L64_ L ∧ Le H64_ H ∧ Tok H w2 b4_ 46 ([.slice Ab4__70_1 yb4__70.book_.l_.length cb4__70_1, .map (some m3_), .pointer none, vi yb4__70.gen_, vi yb4__70.place_]) ∧ yb4__70.book_.l_.length ≤ cb4__70_1 ∧ Sl H Ab4__70_1 yb4__70.book_.l_ ∧ MTok H H w2 m3_ ym3__70 ∧ Tok H w2 b5_ 26 ([.pointer (some ⟨b4_, 0, none⟩)]) ∧ True) n70_ _ rfl ⟨0, yb4__39, Ab4__39_1, cb4__39_1, ym3__39, _, _, rfl, h0_, hI, Le.refl _, Le.refl _, htb4__39, hcb4__39_1, hsb4__39_1, htm3__39, ht5_, trivial⟩ fun B_ b_ => ?_
      clear h0_
      simp only [e_, Nat.reduceAdd, Nat.reduceBEq] at b_
      subst b_
      clear ht5_
      rintro m70_ _ w70_ ⟨x111_70, yb4__70, Ab4__70_1, cb4__70_1, ym3__70, L70_, H70_, rfl, hJ70_, hI70_, hll70_, hhh70_, htb4__70, hcb4__70_1, hsb4__70_1, htm3__70, ht5_, -⟩
      replace hI := hI70_
      clear hI70_
      have h := hs70_ m70_ x111_70 yb4__70 ym3__70 hJ70_
      clear hs70_ hJ70_
      replace hs64_ := hs64_.up hll70_
      replace hll66_ := hll66_.trans hll70_
      replace hhh66_ := hhh66_.trans hhh70_
      refine W_seq_k fun K71 k71 => ?_
      refine W_region [112] rfl (Ops_step (R_lss rfl rfl) rfl rfl ?_)
      refine Ops_nil ?_
      refine then_n (k71 _ _ ?_)
      clear k71 K71
      refine W_seq_k fun K72 k72 => ?_
      refine W_if rfl (fun hc73_ => ?_) (fun hc73_ => ?_)
      ·
       replace h := h.1 hc73_
       refine W_skip ?_
       refine then_n (k72 _ _ ?_)
       clear k72 K72
       refine W_seq_k fun K74 k74 => ?_
       refine W_block ?_
       refine W_seq_k fun K75 k75 => ?_
       refine W_region [113, 114, 24, none] rfl ?_
       refine ex_ h fun x76_ hx76_ h => ?_
       have ha76_ := (Sl.atN (n := 2) rfl (by decide) (hs64_.up hI.sub) hx76_).1
       refine Exists.elim (Sl.atN (n := 2) rfl (by decide) (hs64_.up hI.sub) hx76_).2 fun l76_ hA76_ => ?_
       have hr76_ := hA76_.1
       have hg76_ := hA76_.2
       clear hA76_
       refine Ops_step (R_indexSl Try.underlying41 sz85 rfl rfl hx76_.1 hx76_.lt ha76_) rfl rfl ?_
       obtain ⟨A76_1, c76_1, rfl, ⟨hc76_1, hs76_1⟩⟩ := hr76_
       refine Ops_step (R_loadCs (cs := [vi x76_.label_, .slice A76_1 x76_.data_.length c76_1]) ag85 sz85 rfl (fun j_ v_ hv_ => hI.st _ _ (hg76_ j_ v_ hv_))) rfl rfl ?_
       have hI0_ := hI
       refine Ops_to (R_alloc zr85) rfl rfl ?_
       rintro _ w77_ ⟨b77_, rfl, hb77_, hB77_, hF77_⟩
       replace hI := hI.fr0 hF77_
       replace ht5_ := ht5_.fr0 hF77_
       replace htb4__70 := htb4__70.fr0 hF77_
       replace htm3__70 := htm3__70.fr0 hF77_
       have ht77_ : Tok H70_ _ b77_ 85 ([vi 0, .slice none 0 0]) := ⟨hB77_.to rfl, Out.ge hI0_.st (Nat.le_of_eq hb77_.symm)⟩
       have hge_b77_ : w.heap.size ≤ b77_ := hb77_ ▸ hI0_.size
       clear hB77_ hb77_ hI0_ hF77_
       refine Ops_to0 (R_storeN sz85 rfl rfl rfl ht77_.blk (Nat.le_of_ble_eq_true rfl) rfl) rfl ?_
       rintro _ w78_ ⟨hB78_, hF78_⟩
       replace hI := hI.tok hF78_ (out1 ht77_.out) (new1 hge_b77_)
       replace ht5_ := ht5_.fr hF78_ (ht5_.apart ht77_ (by decide))
       replace htb4__70 := htb4__70.fr hF78_ (htb4__70.apart ht77_ (by decide))
       replace htm3__70 := htm3__70.fr hF78_ (htm3__70.neT ht77_)
       replace ht77_ : Tok H70_ _ b77_ 85 ([vi x76_.label_, .slice A76_1 x76_.data_.length c76_1]) := ⟨hB78_, ht77_.out⟩
       clear hF78_ hB78_
       refine Ops_nil ?_
       refine then_n (k75 _ _ ?_)
       clear k75 K75
       refine W_drawF [115, 116, 117, 118, 119] [(0, true), (1, true), (2, true), (3, true), (4, false)] TJtL.hm rfl (by kernel_rfl) fun ops79_ w79_ hops79_ hF79_ => ?_
       replace hI := hI.fr0 hF79_
       replace ht5_ := ht5_.fr0 hF79_
       replace htb4__70 := htb4__70.fr0 hF79_
       replace htm3__70 := htm3__70.fr0 hF79_
       replace ht77_ := ht77_.fr0 hF79_
       clear hF79_
       refine HS_loadB (v := .pointer (some ⟨b4_, 0, none⟩)) ag26 rfl ht5_.blk rfl rfl rfl ?_
       refine HSp (R_nilCheck rfl) rfl rfl (HSp (R_fieldAddr fo46_0 rfl) rfl rfl ?_)
       refine HS_loadN ag85 sz85 rfl ht77_.blk (Nat.le_of_ble_eq_true rfl) rfl rfl ?_
       refine HS_call [] _ rfl (by rw [hops79_]; kernel_rfl) (C_func bd43 rfl) rfl rfl ?_
       refine (journal_book_add_v2_ok (x1 := x76_) (z0 := yb4__70) (z1 := ym3__70) hI.st (hg.up hI.le) htm3__70 htb4__70 hcb4__70_1 hsb4__70_1 ⟨A76_1, c76_1, rfl, ⟨hc76_1, hs76_1⟩⟩ h).mono ?_
       rintro _ w80_ ⟨y80_o0, A80_o0_1, c80_o0_1, y80_o1, L80_, H80_, rfl, hI80_, ht80_o0, hc80_o0_1, hs80_o0_1, ht80_o1, h⟩
       refine Exists.elim (hI.call hI80_ (memG hge_b4_ (memG hge_m3_ memN))) fun L800_ h80_ => ?_
       have hz80_ := hI.size
       replace hI := h80_.1
       have u80_ := h80_.2.1
       have hl80_ := h80_.2.2
       clear h80_
       replace hs64_ := hs64_.up u80_.ll
       replace hll66_ := hll66_.trans u80_.ll
       replace hhh66_ := hhh66_.trans u80_.hh
       replace ht5_ := ht5_.up u80_ (niA (ht5_.apart htb4__70 (by decide)) (niA (ht5_.neM htm3__70) List.not_mem_nil))
       replace hsb4__70_1 := hsb4__70_1.up u80_.hh
       replace hll70_ := hll70_.trans u80_.ll
       replace hhh70_ := hhh70_.trans u80_.hh
       replace ht77_ := ht77_.up u80_ (niA (ht77_.apart htb4__70 (by decide)) (niA (ht77_.neM htm3__70) List.not_mem_nil))
       clear htb4__70
       clear htm3__70
       clear hI80_ u80_ hl80_
       refine ⟨_, rfl, trivial, ?_⟩
       refine HS_nil ?_
       clear hops79_
       refine block_n ?_
       refine then_n (k74 _ _ ?_)
       clear k74 K74
       refine W_keepB [4, 21, 22, 109, 110, 111] fun B_ b_ => ?_
       simp only [e_, Nat.reduceAdd, Nat.reduceBEq] at b_
       subst b_
       refine W_region [120, 111] rfl ?_
       have hk82_ := h.1
       replace h := h.2
       refine Ops_step (R_add rfl rfl (wI hk82_.1 hk82_.2)) rfl rfl (Ops_step (R_move rfl) rfl rfl ?_)
       refine Ops_nil ?_
       refine then_n ?_
       exact h.elim fun m_ h => ⟨m_, _, h.1, rfl, ⟨(x111_70 + 1), y80_o0, A80_o0_1, c80_o0_1, y80_o1, _, _, rfl, h.2, hI, hll70_, hhh70_, ht80_o0, hc80_o0_1, hs80_o0_1, ht80_o1, ht5_, trivial⟩, ⟨rfl, rfl, rfl, rfl, rfl, trivial⟩⟩
      ·
       replace h := h.2 hc73_
       refine W_exit ?_
       refine then_exit ?_
       clear k72 K72
       refine then_exit ?_
       refine block_exit ?_
       refine then_n ?_
       exact ⟨_, rfl, ⟨yb4__70, Ab4__70_1, cb4__70_1, ym3__70, _, _, rfl, h, hI, hll66_, hhh66_, htb4__70, hcb4__70_1, hsb4__70_1, htm3__70, ht5_, trivial⟩, ⟨rfl, rfl, rfl, trivial⟩⟩
     ·
      replace h := h.2 hc68_
      refine W_skip ?_
      refine then_n ?_
      exact ⟨_, rfl, ⟨yb4__39, Ab4__39_1, cb4__39_1, ym3__39, _, _, rfl, h, hI, hll66_, hhh66_, htb4__39, hcb4__39_1, hsb4__39_1, htm3__39, ht5_, trivial⟩, ⟨rfl, rfl, rfl, trivial⟩⟩
    ·
     simp only [e_, Nat.reduceAdd, Nat.reduceBEq] at b_
     subst b_
     clear h
     clear ht5_
     rintro _ w66_ ⟨yb4__66, Ab4__66_1, cb4__66_1, ym3__66, L66_, H66_, rfl, hJ66_, hI66_, hll66_, hhh66_, htb4__66, hcb4__66_1, hsb4__66_1, htm3__66, ht5_, -⟩
     replace hI := hI66_
     clear hI66_
     have h := hr66_ yb4__66 ym3__66 hJ66_
     clear hr66_ hJ66_
     refine ex_ h fun J83_ hr83_ h => ?_
     refine W_seq_join [4] [] (fun vals_ w2 => ∃ (yb4__83 : journal_Journal) (Ab4__83_1 : Option Addr) (cb4__83_1 : Nat) (L H : Gh), vals_ = [] ∧ J83_ yb4__83 ∧ Inv [] G w L H w2 ∧ Le L66_ L ∧ Le H66_ H ∧ Tok H w2 b4_ 46 ([.slice Ab4__83_1 yb4__83.book_.l_.length cb4__83_1, .map (some m3_), .pointer none, vi yb4__83.gen_, vi yb4__83.place_]) ∧ yb4__83.book_.l_.length ≤ cb4__83_1 ∧ Sl H Ab4__83_1 yb4__83.book_.l_ ∧ Tok H w2 b5_ 26 ([.pointer (some ⟨b4_, 0, none⟩)]) ∧ MTok H H w2 m3_ ym3__66 ∧ True) (fun B_ b_ => ?_) (fun B_ b_ => ?_)
     ·
      simp only [e_, Nat.reduceAdd, Nat.reduceBEq] at b_
      subst b_
      clear hr83_
      have hll83_ := Le.refl L66_
      have hhh83_ := Le.refl H66_
      refine ex_ h fun J84_ hr84_ h => ?_
      refine W_seq_join [4] [126] (fun vals_ w2 => ∃ (x126_84 : Bool) (L H : Gh), vals_ = [.bool x126_84] ∧ J84_ x126_84 ∧ Inv [] G w L H w2 ∧ Le L66_ L ∧ Le H66_ H ∧ Tok H w2 b5_ 26 ([.pointer (some ⟨b4_, 0, none⟩)]) ∧ Tok H w2 b4_ 46 ([.slice Ab4__66_1 yb4__66.book_.l_.length cb4__66_1, .map (some m3_), .pointer none, vi yb4__66.gen_, vi yb4__66.place_]) ∧ MTok H H w2 m3_ ym3__66 ∧ True) (fun B_ b_ => ?_) (fun B_ b_ => ?_)
      ·
       simp only [e_, Nat.reduceAdd, Nat.reduceBEq] at b_
       subst b_
       clear hr84_
       have hll84_ := Le.refl L66_
       have hhh84_ := Le.refl H66_
       refine W_region [121, 122, 123, 124, 125, 126] rfl (Ops_step (R_move rfl) rfl rfl (Ops_step (R_not rfl) rfl rfl (Ops_step (R_move rfl) rfl rfl ?_)))
       refine Ops_splitB 123 rfl (fun hg85_ => ?_) (fun hg85_ => ?_)
       ·
        replace h := h.1 hg85_
        refine Ops_pass rfl rfl (Ops_pass rfl rfl (Ops_step (R_pick_true rfl rfl) rfl rfl ?_))
        refine Ops_nil ?_
        refine then_n ?_
        exact ⟨_, rfl, ⟨true, _, _, rfl, h, hI, hll84_, hhh84_, ht5_, htb4__66, htm3__66, trivial⟩, ⟨rfl, trivial⟩⟩
       ·
        replace h := h.2 hg85_
        refine Ops_step (R_move rfl) rfl rfl (Ops_step (R_not rfl) rfl rfl (Ops_step (R_pick_false rfl rfl) rfl rfl ?_))
        refine Ops_nil ?_
        refine then_n ?_
        exact ⟨_, rfl, ⟨(!r63_3), _, _, rfl, h, hI, hll84_, hhh84_, ht5_, htb4__66, htm3__66, trivial⟩, ⟨rfl, trivial⟩⟩
      ·
       simp only [e_, Nat.reduceAdd, Nat.reduceBEq] at b_
       subst b_
       clear h
       clear ht5_
       clear htb4__66
       clear htm3__66
       rintro _ w84_ ⟨x126_84, L84_, H84_, rfl, hJ84_, hI84_, hll84_, hhh84_, ht5_, htb4__66, htm3__66, -⟩
       replace hI := hI84_
       clear hI84_
       have h := hr84_ x126_84 hJ84_
       clear hr84_ hJ84_
       replace hsb4__66_1 := hsb4__66_1.up hhh84_
       replace hll83_ := hll83_.trans hll84_
       replace hhh83_ := hhh83_.trans hhh84_
       refine W_cond rfl (fun hc86_ => ?_) (fun hc86_ => ?_)
       ·
        replace h := h.1 hc86_
        refine W_seq_k fun K87 k87 => ?_
        refine W_region [127, 128, 25] rfl ?_
        refine Ops_step (R_loadB (v := .pointer (some ⟨b4_, 0, none⟩)) ag26 rfl ht5_.blk rfl) rfl rfl ?_
        refine Ops_call (C_func bd14 rfl) rfl rfl ?_
        refine (journal_Journal_Check_v3_ok (z0 := yb4__66) (z1 := ym3__66) hI.st (hg.up hI.le) htm3__66 htb4__66 hcb4__66_1 hsb4__66_1 h).mono ?_
        rintro _ w88_ ⟨r88_0, y88_o0, A88_o0_1, c88_o0_1, L88_, H88_, rfl, hI88_, ht88_o0, hc88_o0_1, hs88_o0_1, h⟩
        refine Exists.elim (hI.call hI88_ (new1 hge_b4_)) fun L880_ h88_ => ?_
        have hz88_ := hI.size
        replace hI := h88_.1
        have u88_ := h88_.2.1
        have hl88_ := h88_.2.2
        clear h88_
        replace hsb4__66_1 := hsb4__66_1.up u88_.hh
        replace hll83_ := hll83_.trans u88_.ll
        replace hhh83_ := hhh83_.trans u88_.hh
        replace ht5_ := ht5_.up u88_ (ht5_.apart htb4__66 (by decide))
        replace htm3__66 := htm3__66.up u88_.hh u88_ (htm3__66.neT htb4__66)
        clear htb4__66
        clear hI88_ u88_ hl88_
        refine ⟨_, rfl, ?_⟩
        refine Ops_step (R_assign rfl) rfl rfl ?_
        refine Ops_nil ?_
        refine then_n (k87 _ _ ?_)
        clear k87 K87
        refine W_seq_k fun K89 k89 => ?_
        refine W_region [129, 130] rfl (Ops_step (R_move rfl) rfl rfl (Ops_step (R_neq rfl rfl) rfl rfl ?_))
        refine Ops_nil ?_
        refine then_n (k89 _ _ ?_)
        clear k89 K89
        refine W_if rfl (fun hc90_ => ?_) (fun hc90_ => ?_)
        ·
         replace h := h.1 hc90_
         refine W_seq_k fun K91 k91 => ?_
         refine W_region [131, 2, 3] rfl (Ops_step (R_move rfl) rfl rfl (Ops_step (R_assign rfl) rfl rfl (Ops_step (R_assign rfl) rfl rfl ?_)))
         refine Ops_nil ?_
         refine then_n (k91 _ _ ?_)
         clear k91 K91
         refine W_keepB [2, 3] fun B_ b_ => ?_
         simp only [e_, Nat.reduceAdd, Nat.reduceBEq] at b_
         subst b_
         refine W_ret ?_
         refine then_ret ?_
         refine ⟨_, ⟨_, _, rfl, rfl, ⟨_, _, rfl, rfl, rfl⟩⟩, ?_⟩
         exact .inl ⟨r88_0, _, _, rfl, hI, h⟩
        ·
         replace h := h.2 hc90_
         refine W_skip ?_
         refine then_n ?_
         exact ⟨_, rfl, ⟨y88_o0, A88_o0_1, c88_o0_1, _, _, rfl, h, hI, hll83_, hhh83_, ht88_o0, hc88_o0_1, hs88_o0_1, ht5_, htm3__66, trivial⟩, ⟨rfl, trivial⟩⟩
       ·
        replace h := h.2 hc86_
        refine W_skip ?_
        refine then_n ?_
        exact ⟨_, rfl, ⟨yb4__66, Ab4__66_1, cb4__66_1, _, _, rfl, h, hI, hll83_, hhh83_, htb4__66, hcb4__66_1, hsb4__66_1, ht5_, htm3__66, trivial⟩, ⟨rfl, trivial⟩⟩
     ·
      simp only [e_, Nat.reduceAdd, Nat.reduceBEq] at b_
      subst b_
      clear h
      clear ht5_
      clear htm3__66
      rintro _ w83_ ⟨yb4__83, Ab4__83_1, cb4__83_1, L83_, H83_, rfl, hJ83_, hI83_, hll83_, hhh83_, htb4__83, hcb4__83_1, hsb4__83_1, ht5_, htm3__66, -⟩
      replace hI := hI83_
      clear hI83_
      have h := hr83_ yb4__83 hJ83_
      clear hr83_ hJ83_
      refine W_seq_k fun K93 k93 => ?_
      refine W_region [132, 2, 3] rfl ?_
      refine Ops_step (R_loadB (v := .pointer (some ⟨b4_, 0, none⟩)) ag26 rfl ht5_.blk rfl) rfl rfl ?_
      refine Ops_step (R_assign rfl) rfl rfl (Ops_step (R_assign rfl) rfl rfl ?_)
      refine Ops_nil ?_
      refine then_n (k93 _ _ ?_)
      clear k93 K93
      refine W_ret ?_
      refine ⟨_, ⟨_, _, rfl, rfl, ⟨_, _, rfl, rfl, rfl⟩⟩, ?_⟩
      exact .inr ⟨0, b4_, yb4__83, Ab4__83_1, cb4__83_1, m3_, ym3__66, _, _, rfl, hI, hge_b4_, htb4__83, hcb4__83_1, hsb4__83_1, hge_m3_, htm3__66, h⟩

end Go.Proofs.Ytkmljjhjojolcaa

