/- What is shown of the program on the way to the law. -/
import Derived.Test.YtkmljjhjojolcaaZn3
import Derived.Test.YtkmljjhjojolcaaZn4
import Derived.Test.YtkmljjhjojolcaaZn5
import Derived.Test.YtkmljjhjojolcaaZn7
import Derived.Test.YtkmljjhjojolcaaZn8
import Derived.Test.YtkmljjhjojolcaaZn9
import Derived.Test.YtkmljjhjojolcaaProg
set_option linter.unusedVariables false
set_option linter.unusedSimpArgs false
set_option maxHeartbeats 4000000
namespace Go.Proofs.Ytkmljjhjojolcaa
open Go Go.Sx Go.Lx
namespace TJtE
theorem hm : Try.prog.follows .mixedOrders = true := by kernel_rfl
theorem ag25 : aggB Try.prog 25 = some false := by kernel_rfl
theorem ag29 : aggB Try.prog 29 = some false := by kernel_rfl
theorem ag3 : aggB Try.prog 3 = some false := by kernel_rfl
theorem ag41 : aggB Try.prog 41 = some false := by kernel_rfl
theorem ag42 : aggB Try.prog 42 = some false := by kernel_rfl
theorem ag85 : aggB Try.prog 85 = some true := by kernel_rfl
theorem bd13 : bodied Try.prog 13 = true := by kernel_rfl
theorem bd15 : bodied Try.prog 15 = true := by kernel_rfl
theorem bd17 : bodied Try.prog 17 = true := by kernel_rfl
theorem bd18 : bodied Try.prog 18 = true := by kernel_rfl
theorem bd19 : bodied Try.prog 19 = true := by kernel_rfl
theorem bd20 : bodied Try.prog 20 = true := by kernel_rfl
theorem bd21 : bodied Try.prog 21 = true := by kernel_rfl
theorem bd22 : bodied Try.prog 22 = true := by kernel_rfl
theorem bd24 : bodied Try.prog 24 = true := by kernel_rfl
theorem bd26 : bodied Try.prog 26 = true := by kernel_rfl
theorem bd32 : bodied Try.prog 32 = true := by kernel_rfl
theorem bd39 : bodied Try.prog 39 = true := by kernel_rfl
theorem bd41 : bodied Try.prog 41 = true := by kernel_rfl
theorem bd43 : bodied Try.prog 43 = true := by kernel_rfl
theorem bd48 : bodied Try.prog 48 = true := by kernel_rfl
theorem el29 : Elem Try.prog 29 5 1 1 := Elem.of (by kernel_rfl)
theorem fo44_0 : offB Try.prog 44 0 = some 0 := by kernel_rfl
theorem fo44_1 : offB Try.prog 44 1 = some 1 := by kernel_rfl
theorem fo46_0 : offB Try.prog 46 0 = some 0 := by kernel_rfl
theorem fo46_1 : offB Try.prog 46 1 = some 2 := by kernel_rfl
theorem fo53_1 : offB Try.prog 53 1 = some 3 := by kernel_rfl
theorem fo53_2 : offB Try.prog 53 2 = some 4 := by kernel_rfl
theorem fo53_3 : offB Try.prog 53 3 = some 5 := by kernel_rfl
theorem fo53_4 : offB Try.prog 53 4 = some 6 := by kernel_rfl
theorem fo85_0 : offB Try.prog 85 0 = some 0 := by kernel_rfl
theorem fo85_1 : offB Try.prog 85 1 = some 1 := by kernel_rfl
theorem pl85 : partPl Try.prog 85 = some [(0, 1), (1, 1)] := by kernel_rfl
theorem sz3 : sz Try.prog 3 = some 1 := by kernel_rfl
theorem sz4 : sz Try.prog 4 = some 1 := by kernel_rfl
theorem sz85 : sz Try.prog 85 = some 2 := by kernel_rfl
theorem zr5 : zr Try.prog 5 = some ([.int .u8 0]) := by kernel_rfl
theorem zr85 : zr Try.prog 85 = some ([.int .i64 0] ++ [.slice none 0 0]) := by kernel_rfl
theorem zv3 : zv Try.prog 3 = some (vi 0) := by kernel_rfl
end TJtE
open TJtE
theorem sealskinlaw06_begun_ok {G : Gh} {w : World} (hS : St G w) (hg : GL G)  {Q : Bool → disk_Disk → journal_Journal → (List (Int × Int)) → Prop} (h : sealskinlaw06_begun  Q) : Calls Try.prog 13 #[] w fun e w2 => ∃ (r2 : Bool) (o0 : Nat) (y0 : disk_Disk) (Ay0_1 : Option Addr) (cy0_1 : Nat) (Ay0_2 : Option Addr) (cy0_2 : Nat) (Ay0_3 : Option Addr) (cy0_3 : Nat) (o1 : Nat) (y1 : journal_Journal) (Ay1_1 : Option Addr) (cy1_1 : Nat) (o2 : Nat) (y2 : List (Int × Int)) (L H : Gh), e = .returned (.tuple #[.pointer (some ⟨o0, 0, none⟩), .pointer (some ⟨o1, 0, none⟩), .bool r2]) ∧ Inv [] G w L H w2 ∧ w.heap.size ≤ o0 ∧ Tok H w2 o0 53 ([.slice Ay0_1 y0.files_.e0_.length cy0_1, .slice Ay0_2 y0.files_.e1_.length cy0_2, .slice Ay0_3 y0.files_.e2_.length cy0_3, vi y0.room_, .bool y0.off_, .bool y0.armed_, vi y0.left_]) ∧ y0.files_.e0_.length ≤ cy0_1 ∧ Sl H Ay0_1 y0.files_.e0_ ∧ y0.files_.e1_.length ≤ cy0_2 ∧ Sl H Ay0_2 y0.files_.e1_ ∧ y0.files_.e2_.length ≤ cy0_3 ∧ Sl H Ay0_3 y0.files_.e2_ ∧ w.heap.size ≤ o1 ∧ Tok H w2 o1 46 ([.slice Ay1_1 y1.book_.l_.length cy1_1, .map (some o2), .pointer (some ⟨o0, 0, none⟩), vi y1.gen_, vi y1.place_]) ∧ y1.book_.l_.length ≤ cy1_1 ∧ Sl H Ay1_1 y1.book_.l_ ∧ w.heap.size ≤ o2 ∧ MTok H H w2 o2 y2 ∧ Q r2 y0 y1 y2 := by
 unfold sealskinlaw06_begun at h
 have hI := Inv.start (M := []) hS
 refine calls_W 20 Try.func13 rfl Try.ntmps13 rfl [.tmp 0, .tmp 1, .tmp 2] rfl ?_
 refine W_seq_k fun K1 k1 => ?_
 refine W_region [0, 1, 2] rfl (Ops_step (R_assign rfl) rfl rfl (Ops_step (R_assign rfl) rfl rfl (Ops_step (R_assign rfl) rfl rfl ?_)))
 refine Ops_nil ?_
 refine then_n (k1 _ _ ?_)
 clear k1 K1
 refine W_seq_k fun K2 k2 => ?_
 refine W_region [8, 7, 9, 10, 3, 4] rfl ?_
 refine Ops_call (C_func bd24 rfl) rfl rfl ?_
 refine (disk_New_ok (x0 := 8388608) hI.st (hg.up hI.le)  h).mono ?_
 rintro _ w3_ (⟨r3a_1, L3a_, H3a_, rfl, hI3a_, h⟩ | ⟨r3b_1, o0_3b, y3b_o0, A3b_o0_1, c3b_o0_1, A3b_o0_2, c3b_o0_2, A3b_o0_3, c3b_o0_3, L3b_, H3b_, rfl, hI3b_, hge_o0_3b, ht3b_o0, hc3b_o0_1, hs3b_o0_1, hc3b_o0_2, hs3b_o0_2, hc3b_o0_3, hs3b_o0_3, h⟩)
 ·
  exact h.elim
 ·
  have hge0_o0_3b := hge_o0_3b
  replace hge_o0_3b := Nat.le_trans hI.size hge_o0_3b
  refine Exists.elim (hI.call hI3b_ (by simp)) fun L3b0_ h3b_ => ?_
  have hz3b_ := hI.size
  replace hI := h3b_.1
  have u3b_ := h3b_.2.1
  have hl3b_ := h3b_.2.2
  clear h3b_
  clear hI3b_ u3b_ hl3b_
  refine ⟨_, rfl, ?_⟩
  refine Ops_step (R_move rfl) rfl rfl ?_
  refine Ops_step (R_extract (v := .pointer (some ⟨o0_3b, 0, none⟩)) rfl rfl) rfl rfl ?_
  refine Ops_step (R_extract (v := vi r3b_1) rfl rfl) rfl rfl ?_
  refine Ops_step (R_assign rfl) rfl rfl (Ops_step (R_assign rfl) rfl rfl ?_)
  refine Ops_nil ?_
  refine then_n (k2 _ _ ?_)
  clear k2 K2
  refine W_keepB [3] fun B_ b_ => ?_
  simp only [e_, Nat.reduceAdd, Nat.reduceBEq] at b_
  subst b_
  refine W_seq_k fun K5 k5 => ?_
  refine W_region [12, 13, 11, 14, 15, 5, 6] rfl (Ops_step (R_move rfl) rfl rfl ?_)
  refine Ops_call (C_func bd20 rfl) rfl rfl ?_
  refine (journal_Open_ok (z0 := y3b_o0) hI.st (hg.up hI.le) ht3b_o0 hc3b_o0_1 hs3b_o0_1 hc3b_o0_2 hs3b_o0_2 hc3b_o0_3 hs3b_o0_3 h).mono ?_
  rintro _ w6_ (⟨r6a_1, y6a_o0, A6a_o0_1, c6a_o0_1, A6a_o0_2, c6a_o0_2, A6a_o0_3, c6a_o0_3, L6a_, H6a_, rfl, hI6a_, ht6a_o0, hc6a_o0_1, hs6a_o0_1, hc6a_o0_2, hs6a_o0_2, hc6a_o0_3, hs6a_o0_3, h⟩ | ⟨r6b_1, y6b_o0, A6b_o0_1, c6b_o0_1, A6b_o0_2, c6b_o0_2, A6b_o0_3, c6b_o0_3, o1_6b, y6b_o1, A6b_o1_1, c6b_o1_1, o2_6b, y6b_o2, L6b_, H6b_, rfl, hI6b_, ht6b_o0, hc6b_o0_1, hs6b_o0_1, hc6b_o0_2, hs6b_o0_2, hc6b_o0_3, hs6b_o0_3, hge_o1_6b, ht6b_o1, hc6b_o1_1, hs6b_o1_1, hge_o2_6b, ht6b_o2, h⟩)
  ·
   exact h.elim
  ·
   have hge0_o1_6b := hge_o1_6b
   replace hge_o1_6b := Nat.le_trans hI.size hge_o1_6b
   have hge0_o2_6b := hge_o2_6b
   replace hge_o2_6b := Nat.le_trans hI.size hge_o2_6b
   refine Exists.elim (hI.call hI6b_ (new1 hge_o0_3b)) fun L6b0_ h6b_ => ?_
   have hz6b_ := hI.size
   replace hI := h6b_.1
   have u6b_ := h6b_.2.1
   have hl6b_ := h6b_.2.2
   clear h6b_
   replace hs3b_o0_1 := hs3b_o0_1.up u6b_.hh
   replace hs3b_o0_2 := hs3b_o0_2.up u6b_.hh
   replace hs3b_o0_3 := hs3b_o0_3.up u6b_.hh
   clear ht3b_o0
   clear hI6b_ u6b_ hl6b_
   refine ⟨_, rfl, ?_⟩
   refine Ops_step (R_move rfl) rfl rfl ?_
   refine Ops_step (R_extract (v := .pointer (some ⟨o1_6b, 0, none⟩)) rfl rfl) rfl rfl ?_
   refine Ops_step (R_extract (v := vi r6b_1) rfl rfl) rfl rfl ?_
   refine Ops_step (R_assign rfl) rfl rfl (Ops_step (R_assign rfl) rfl rfl ?_)
   refine Ops_nil ?_
   refine then_n (k5 _ _ ?_)
   clear k5 K5
   refine W_seq_k fun K7 k7 => ?_
   refine W_region [16, 17, 18, 19, 0, 1, 2] rfl (Ops_step (R_move rfl) rfl rfl (Ops_step (R_move rfl) rfl rfl (Ops_step (R_move rfl) rfl rfl (Ops_step (R_eql rfl rfl) rfl rfl ?_))))
   refine Ops_step (R_assign rfl) rfl rfl (Ops_step (R_assign rfl) rfl rfl (Ops_step (R_assign rfl) rfl rfl ?_))
   refine Ops_nil ?_
   refine then_n (k7 _ _ ?_)
   clear k7 K7
   refine W_keepB [0, 1, 2] fun B_ b_ => ?_
   simp only [e_, Nat.reduceAdd, Nat.reduceBEq] at b_
   subst b_
   refine W_ret ?_
   refine ⟨_, ⟨_, _, rfl, rfl, ⟨_, _, rfl, rfl, ⟨_, _, rfl, rfl, rfl⟩⟩⟩, ?_⟩
   exact ⟨(decide (r6b_1 = 0)), o0_3b, y6b_o0, A6b_o0_1, c6b_o0_1, A6b_o0_2, c6b_o0_2, A6b_o0_3, c6b_o0_3, o1_6b, y6b_o1, A6b_o1_1, c6b_o1_1, o2_6b, y6b_o2, _, _, rfl, hI, hge_o0_3b, ht6b_o0, hc6b_o0_1, hs6b_o0_1, hc6b_o0_2, hs6b_o0_2, hc6b_o0_3, hs6b_o0_3, hge_o1_6b, ht6b_o1, hc6b_o1_1, hs6b_o1_1, hge_o2_6b, ht6b_o2, h⟩

theorem slices_Clone_sl_byte_byte_ok {G : Gh} {w : World} (hS : St G w) (hg : GL G) {A0 : Option Addr} {c0 : Nat} {x0 : List UInt8} (hc0 : x0.length ≤ c0) (hs0 : Sl G A0 x0) {Q : (List UInt8) → Prop} (h : slices_Clone_sl_byte_byte x0 Q) : Calls Try.prog 32 #[.slice A0 x0.length c0] w fun e w2 => ∃ (A0 : Option Addr) (c0 : Nat) (r0 : List UInt8) (L H : Gh), e = .returned (.slice A0 r0.length c0) ∧ Inv [] G w L H w2 ∧ OwnS w.heap.size 5 L H w2 A0 c0 r0 ∧ Q r0 := by
 unfold slices_Clone_sl_byte_byte at h
 have hI := Inv.start (M := []) hS
 refine calls_W 8 Try.func32 rfl Try.ntmps32 rfl [.tmp 2] rfl ?_
 refine W_seq_k fun K1 k1 => ?_
 refine W_region [2] rfl (Ops_step (R_assign rfl) rfl rfl ?_)
 refine Ops_nil ?_
 refine then_n (k1 _ _ ?_)
 clear k1 K1
 refine W_seq_k fun K2 k2 => ?_
 refine W_seq_k fun K3 k3 => ?_
 refine W_region [3, 4] rfl (Ops_step (R_move rfl) rfl rfl ?_)
 refine named (A0).isNone fun b4_ eb4_ => ?_
 replace h := h b4_ (fun e_ => sl_nil hs0 (by decide) (eb4_.symm.trans e_))
 refine Ops_step (X_slNil eb4_ Try.underlying29 rfl rfl) rfl rfl ?_
 refine Ops_nil ?_
 refine then_n (k3 _ _ ?_)
 clear k3 K3
 refine W_cond rfl (fun hc5_ => ?_) (fun hc5_ => ?_)
 ·
  replace h := h.1 hc5_
  refine W_seq_k fun K6 k6 => ?_
  refine W_region [2] rfl (Ops_step (R_assign rfl) rfl rfl ?_)
  refine Ops_nil ?_
  refine then_n (k6 _ _ ?_)
  clear k6 K6
  refine W_ret ?_
  refine then_ret ?_
  clear k2 K2
  refine ⟨_, ⟨_, _, rfl, rfl, rfl⟩, ?_⟩
  exact ⟨none, 0, [], _, _, rfl, hI, OwnS.nil, h⟩
 ·
  replace h := h.2 hc5_
  refine W_skip ?_
  refine then_n (k2 _ _ ?_)
  clear k2 K2
  refine W_seq_k fun K7 k7 => ?_
  refine W_region [5, 6, 7, 2] rfl ?_
  refine Ops_to (R_buildSlice0 el29) rfl rfl ?_
  rintro _ w8_ ⟨b8_, rfl, hb8_, hB8_, hF8_⟩
  have ho8_ : OwnS w.heap.size 5 Gh.no G _ (some ⟨b8_, 0, none⟩) 0 ([] : List UInt8) := OwnS.ofBlk hI.st hb8_ hB8_ (all2_sc' _) rfl (by have := hI.size; omega) (by show 0 ≤ maxLen; decide)
  replace hI := hI.fr0 hF8_
  clear hF8_ hB8_
  refine Ops_step (R_move rfl) rfl rfl ?_
  have hk10_ := h.1
  replace h := h.2
  refine Ops_to (X_append (α := UInt8) (xs := ([] : List UInt8)) (ys := x0) el29 rfl rfl ho8_ (Srcs.sc (Srcs.ofSl Try.underlying29 hs0 hI.st (by decide))) hI.st hk10_ (by decide) hI.size) rfl rfl ?_
  rintro _ w9_ ⟨A9_, c9_, rfl, ho9_, hF9_, hbk9_⟩
  clear hbk9_
  replace hI := hI.tok hF9_ ho8_.out (ho8_.new (Nat.le_refl _))
  clear hF9_ ho8_
  refine Ops_step (R_assign rfl) rfl rfl ?_
  refine Ops_nil ?_
  refine then_n (k7 _ _ ?_)
  clear k7 K7
  refine W_keepB [2] fun B_ b_ => ?_
  simp only [e_, Nat.reduceAdd, Nat.reduceBEq] at b_
  subst b_
  refine W_ret ?_
  refine ⟨_, ⟨_, _, rfl, rfl, rfl⟩, ?_⟩
  exact ⟨A9_, c9_, (([] : List UInt8) ++ x0), _, _, rfl, hI, (ho9_.hl (Le.no _)), h⟩

theorem journal_Journal_Put_ok {G : Gh} {w : World} (hS : St G w) (hg : GL G) {d0 : Nat} {z0 : journal_Journal} {Ad0_1 : Option Addr} {cd0_1 : Nat} {d1 : Nat} {z1 : List (Int × Int)} (htd1 : MTok G G w d1 z1) {d2 : Nat} {z2 : disk_Disk} {Ad2_1 : Option Addr} {cd2_1 : Nat} {Ad2_2 : Option Addr} {cd2_2 : Nat} {Ad2_3 : Option Addr} {cd2_3 : Nat} (htd2 : Tok G w d2 53 ([.slice Ad2_1 z2.files_.e0_.length cd2_1, .slice Ad2_2 z2.files_.e1_.length cd2_2, .slice Ad2_3 z2.files_.e2_.length cd2_3, vi z2.room_, .bool z2.off_, .bool z2.armed_, vi z2.left_])) (hcd2_1 : z2.files_.e0_.length ≤ cd2_1) (hsd2_1 : Sl G Ad2_1 z2.files_.e0_) (hcd2_2 : z2.files_.e1_.length ≤ cd2_2) (hsd2_2 : Sl G Ad2_2 z2.files_.e1_) (hcd2_3 : z2.files_.e2_.length ≤ cd2_3) (hsd2_3 : Sl G Ad2_3 z2.files_.e2_) (htd0 : Tok G w d0 46 ([.slice Ad0_1 z0.book_.l_.length cd0_1, .map (some d1), .pointer (some ⟨d2, 0, none⟩), vi z0.gen_, vi z0.place_])) (hcd0_1 : z0.book_.l_.length ≤ cd0_1) (hsd0_1 : Sl G Ad0_1 z0.book_.l_) {x1 : Int} {A2 : Option Addr} {c2 : Nat} {x2 : List UInt8} (hc2 : x2.length ≤ c2) (hs2 : Sl G A2 x2) {Q : Int → journal_Journal → (List (Int × Int)) → disk_Disk → Prop} (h : journal_Journal_Put z0 z1 z2 x1 x2 Q) : Calls Try.prog 15 #[.pointer (some ⟨d0, 0, none⟩), vi x1, .slice A2 x2.length c2] w fun e w2 => ∃ (r0 : Int) (y0 : journal_Journal) (Ay0_1 : Option Addr) (cy0_1 : Nat) (y1 : List (Int × Int)) (y2 : disk_Disk) (Ay2_1 : Option Addr) (cy2_1 : Nat) (Ay2_2 : Option Addr) (cy2_2 : Nat) (Ay2_3 : Option Addr) (cy2_3 : Nat) (L H : Gh), e = .returned (vi r0) ∧ Inv [d0, d1, d2] G w L H w2 ∧ Tok H w2 d0 46 ([.slice Ay0_1 y0.book_.l_.length cy0_1, .map (some d1), .pointer (some ⟨d2, 0, none⟩), vi y0.gen_, vi y0.place_]) ∧ y0.book_.l_.length ≤ cy0_1 ∧ Sl H Ay0_1 y0.book_.l_ ∧ MTok H H w2 d1 y1 ∧ Tok H w2 d2 53 ([.slice Ay2_1 y2.files_.e0_.length cy2_1, .slice Ay2_2 y2.files_.e1_.length cy2_2, .slice Ay2_3 y2.files_.e2_.length cy2_3, vi y2.room_, .bool y2.off_, .bool y2.armed_, vi y2.left_]) ∧ y2.files_.e0_.length ≤ cy2_1 ∧ Sl H Ay2_1 y2.files_.e0_ ∧ y2.files_.e1_.length ≤ cy2_2 ∧ Sl H Ay2_2 y2.files_.e1_ ∧ y2.files_.e2_.length ≤ cy2_3 ∧ Sl H Ay2_3 y2.files_.e2_ ∧ Q r0 y0 y1 y2 := by
 unfold journal_Journal_Put at h
 have hI := Inv.start (M := [d0, d1, d2]) hS
 refine calls_W 48 Try.func15 rfl Try.ntmps15 rfl [.tmp 6] rfl ?_
 have hlt_d0 := htd0.blk.lt
 have hlt_d1 := htd1.lt
 have hlt_d2 := htd2.blk.lt
 refine W_seq_k fun K1 k1 => ?_
 refine W_region [6] rfl (Ops_step (R_assign rfl) rfl rfl ?_)
 refine Ops_nil ?_
 refine then_n (k1 _ _ ?_)
 clear k1 K1
 refine W_seq_k fun K2 k2 => ?_
 refine W_block ?_
 refine W_seq_k fun K3 k3 => ?_
 refine W_region [10, 11, 9] rfl (Ops_step (R_move rfl) rfl rfl ?_)
 refine Ops_call (C_func bd39 rfl) rfl rfl ?_
 refine (journal_Journal_dead_ok (z0 := z0) (z1 := z1) (z2 := z2) hI.st (hg.up hI.le) htd1 htd2 hcd2_1 hsd2_1 hcd2_2 hsd2_2 hcd2_3 hsd2_3 htd0 hcd0_1 hsd0_1 h).mono ?_
 rintro _ w4_ ⟨r4_0, L4_, H4_, rfl, hI4_, h⟩
 refine Exists.elim (hI.call hI4_ (by simp)) fun L40_ h4_ => ?_
 have hz4_ := hI.size
 replace hI := h4_.1
 have u4_ := h4_.2.1
 have hl4_ := h4_.2.2
 clear h4_
 replace hsd0_1 := hsd0_1.up u4_.hh
 replace htd1 := htd1.up u4_.hh u4_ (by simp)
 replace hsd2_1 := hsd2_1.up u4_.hh
 replace hsd2_2 := hsd2_2.up u4_.hh
 replace hsd2_3 := hsd2_3.up u4_.hh
 replace htd2 := htd2.up u4_ (by simp)
 replace htd0 := htd0.up u4_ (by simp)
 replace hs2 := hs2.up u4_.hh
 clear hI4_ u4_ hl4_
 refine ⟨_, rfl, ?_⟩
 refine Ops_step (R_assign rfl) rfl rfl ?_
 refine Ops_nil ?_
 refine then_n (k3 _ _ ?_)
 clear k3 K3
 refine W_cond rfl (fun hc5_ => ?_) (fun hc5_ => ?_)
 ·
  replace h := h.1 hc5_
  refine W_seq_k fun K6 k6 => ?_
  refine W_region [6] rfl (Ops_step (R_assign rfl) rfl rfl ?_)
  refine Ops_nil ?_
  refine then_n (k6 _ _ ?_)
  clear k6 K6
  refine W_keepB [6] fun B_ b_ => ?_
  simp only [e_, Nat.reduceAdd, Nat.reduceBEq] at b_
  subst b_
  refine W_ret ?_
  refine block_ret ?_
  refine then_ret ?_
  clear k2 K2
  refine ⟨_, ⟨_, _, rfl, rfl, rfl⟩, ?_⟩
  exact ⟨6, z0, Ad0_1, cd0_1, z1, z2, Ad2_1, cd2_1, Ad2_2, cd2_2, Ad2_3, cd2_3, _, _, rfl, hI, htd0, hcd0_1, hsd0_1, htd1, htd2, hcd2_1, hsd2_1, hcd2_2, hsd2_2, hcd2_3, hsd2_3, h⟩
 ·
  replace h := h.2 hc5_
  refine ex_ h fun J8_ hr8_ h => ?_
  refine W_seq_join [0, 1, 2] [12] (fun vals_ w2 => ∃ (x12_8 : Bool) (L H : Gh), vals_ = [.bool x12_8] ∧ J8_ x12_8 ∧ Inv [d0, d1, d2] G w L H w2 ∧ Le L40_ L ∧ Le H4_ H ∧ MTok H H w2 d1 z1 ∧ Tok H w2 d2 53 ([.slice Ad2_1 z2.files_.e0_.length cd2_1, .slice Ad2_2 z2.files_.e1_.length cd2_2, .slice Ad2_3 z2.files_.e2_.length cd2_3, vi z2.room_, .bool z2.off_, .bool z2.armed_, vi z2.left_]) ∧ Tok H w2 d0 46 ([.slice Ad0_1 z0.book_.l_.length cd0_1, .map (some d1), .pointer (some ⟨d2, 0, none⟩), vi z0.gen_, vi z0.place_]) ∧ True) (fun B_ b_ => ?_) (fun B_ b_ => ?_)
  ·
   simp only [e_, Nat.reduceAdd, Nat.reduceBEq] at b_
   subst b_
   clear hr8_
   have hll8_ := Le.refl L40_
   have hhh8_ := Le.refl H4_
   refine W_region [13, 14, 15, 16, 17, 18, 12] rfl (Ops_step (R_move rfl) rfl rfl (Ops_step (R_lss rfl rfl) rfl rfl (Ops_step (R_move rfl) rfl rfl ?_)))
   refine Ops_split 15 rfl (fun hg9_ => ?_) (fun hg9_ => ?_)
   ·
    replace h := h.1 hg9_
    refine Ops_pass rfl rfl (Ops_pass rfl rfl (Ops_step (R_pick_true rfl rfl) rfl rfl (Ops_step (R_assign rfl) rfl rfl ?_)))
    refine Ops_nil ?_
    refine then_n ?_
    exact ⟨_, rfl, ⟨true, _, _, rfl, h, hI, hll8_, hhh8_, htd1, htd2, htd0, trivial⟩, ⟨rfl, rfl, rfl, trivial⟩⟩
   ·
    replace h := h.2 hg9_
    refine Ops_step (R_move rfl) rfl rfl (Ops_step (R_geq rfl rfl) rfl rfl (Ops_step (R_pick_false rfl rfl) rfl rfl (Ops_step (R_assign rfl) rfl rfl ?_)))
    refine Ops_nil ?_
    refine then_n ?_
    exact ⟨_, rfl, ⟨(decide (x1 ≥ 32)), _, _, rfl, h, hI, hll8_, hhh8_, htd1, htd2, htd0, trivial⟩, ⟨rfl, rfl, rfl, trivial⟩⟩
  ·
   simp only [e_, Nat.reduceAdd, Nat.reduceBEq] at b_
   subst b_
   clear h
   clear htd0
   clear htd1
   clear htd2
   rintro _ w8_ ⟨x12_8, L8_, H8_, rfl, hJ8_, hI8_, hll8_, hhh8_, htd1, htd2, htd0, -⟩
   replace hI := hI8_
   clear hI8_
   have h := hr8_ x12_8 hJ8_
   clear hr8_ hJ8_
   replace hsd0_1 := hsd0_1.up hhh8_
   replace hsd2_1 := hsd2_1.up hhh8_
   replace hsd2_2 := hsd2_2.up hhh8_
   replace hsd2_3 := hsd2_3.up hhh8_
   replace hs2 := hs2.up hhh8_
   refine W_cond rfl (fun hc10_ => ?_) (fun hc10_ => ?_)
   ·
    replace h := h.1 hc10_
    refine W_seq_k fun K11 k11 => ?_
    refine W_region [6] rfl (Ops_step (R_assign rfl) rfl rfl ?_)
    refine Ops_nil ?_
    refine then_n (k11 _ _ ?_)
    clear k11 K11
    refine W_ret ?_
    refine block_ret ?_
    refine then_ret ?_
    clear k2 K2
    refine ⟨_, ⟨_, _, rfl, rfl, rfl⟩, ?_⟩
    exact ⟨10, z0, Ad0_1, cd0_1, z1, z2, Ad2_1, cd2_1, Ad2_2, cd2_2, Ad2_3, cd2_3, _, _, rfl, hI, htd0, hcd0_1, hsd0_1, htd1, htd2, hcd2_1, hsd2_1, hcd2_2, hsd2_2, hcd2_3, hsd2_3, h⟩
   ·
    replace h := h.2 hc10_
    refine W_seq_k fun K12 k12 => ?_
    refine W_region [20, 21, 22, 19] rfl (Ops_step (R_move rfl) rfl rfl (Ops_step (R_len Try.underlying29 rfl rfl) rfl rfl (Ops_step (R_gtr rfl rfl) rfl rfl (Ops_step (R_assign rfl) rfl rfl ?_))))
    refine Ops_nil ?_
    refine then_n (k12 _ _ ?_)
    clear k12 K12
    refine W_if rfl (fun hc13_ => ?_) (fun hc13_ => ?_)
    ·
     replace h := h.1 hc13_
     refine W_seq_k fun K14 k14 => ?_
     refine W_region [6] rfl (Ops_step (R_assign rfl) rfl rfl ?_)
     refine Ops_nil ?_
     refine then_n (k14 _ _ ?_)
     clear k14 K14
     refine W_keepB [6] fun B_ b_ => ?_
     simp only [e_, Nat.reduceAdd, Nat.reduceBEq] at b_
     subst b_
     refine W_ret ?_
     refine block_ret ?_
     refine then_ret ?_
     clear k2 K2
     refine ⟨_, ⟨_, _, rfl, rfl, rfl⟩, ?_⟩
     exact ⟨4, z0, Ad0_1, cd0_1, z1, z2, Ad2_1, cd2_1, Ad2_2, cd2_2, Ad2_3, cd2_3, _, _, rfl, hI, htd0, hcd0_1, hsd0_1, htd1, htd2, hcd2_1, hsd2_1, hcd2_2, hsd2_2, hcd2_3, hsd2_3, h⟩
    ·
     replace h := h.2 hc13_
     refine W_skip ?_
     refine block_n ?_
     refine then_n (k2 _ _ ?_)
     clear k2 K2
     refine W_seq_k fun K16 k16 => ?_
     refine W_region [23, 24, 25, 26, 7, none] rfl (Ops_step (R_move rfl) rfl rfl (Ops_step (R_move rfl) rfl rfl ?_))
     refine Ops_call (C_func bd32 rfl) rfl rfl ?_
     refine (slices_Clone_sl_byte_byte_ok (x0 := x2) hI.st (hg.up hI.le) hc2 hs2 h).mono ?_
     rintro _ w17_ ⟨A17_0, c17_0, r17_0, L17_, H17_, rfl, hI17_, ho17_0, h⟩
     refine Exists.elim (hI.call hI17_ (by simp)) fun L170_ h17_ => ?_
     have hz17_ := hI.size
     replace hI := h17_.1
     have u17_ := h17_.2.1
     have hl17_ := h17_.2.2
     clear h17_
     replace hsd0_1 := hsd0_1.up u17_.hh
     replace hsd2_1 := hsd2_1.up u17_.hh
     replace hsd2_2 := hsd2_2.up u17_.hh
     replace hsd2_3 := hsd2_3.up u17_.hh
     replace htd1 := htd1.up u17_.hh u17_ (by simp)
     replace htd2 := htd2.up u17_ (by simp)
     replace htd0 := htd0.up u17_ (by simp)
     replace ho17_0 := OwnS.backS ho17_0 hz17_ (Le.refl _)
     clear hI17_ u17_ hl17_
     refine ⟨_, rfl, ?_⟩
     refine Exists.elim (ho17_0.freeze hI) fun L18_ h18_ => Exists.elim h18_ fun H18_ h18_ => ?_
     replace hI := h18_.1
     have u18_ := h18_.2.1
     have hs18_ := h18_.2.2.1 (Le.no _)
     have hc18_ := ho17_0.cap
     replace hsd0_1 := hsd0_1.up u18_.hh
     replace hsd2_1 := hsd2_1.up u18_.hh
     replace hsd2_2 := hsd2_2.up u18_.hh
     replace hsd2_3 := hsd2_3.up u18_.hh
     replace htd1 := htd1.up u18_.hh u18_ (ho17_0.old hlt_d1)
     replace htd2 := htd2.up u18_ (ho17_0.old hlt_d2)
     replace htd0 := htd0.up u18_ (ho17_0.old hlt_d0)
     clear h18_ u18_ ho17_0
     refine Ops_step (R_build (pl := [(0, 1), (1, 1)]) (cs := [vi x1, .slice A17_0 r17_0.length c17_0]) zr85 pl85 rfl rfl rfl) rfl rfl ?_
     have hI0_ := hI
     refine Ops_to (R_alloc zr85) rfl rfl ?_
     rintro _ w19_ ⟨b19_, rfl, hb19_, hB19_, hF19_⟩
     replace hI := hI.fr0 hF19_
     replace htd1 := htd1.fr0 hF19_
     replace htd2 := htd2.fr0 hF19_
     replace htd0 := htd0.fr0 hF19_
     have ht19_ : Tok H18_ _ b19_ 85 ([vi 0, .slice none 0 0]) := ⟨hB19_.to rfl, Out.ge hI0_.st (Nat.le_of_eq hb19_.symm)⟩
     have hge_b19_ : w.heap.size ≤ b19_ := hb19_ ▸ hI0_.size
     clear hB19_ hb19_ hI0_ hF19_
     refine Ops_to0 (R_storeN sz85 rfl rfl rfl ht19_.blk (Nat.le_of_ble_eq_true rfl) rfl) rfl ?_
     rintro _ w20_ ⟨hB20_, hF20_⟩
     replace hI := hI.tok hF20_ (out1 ht19_.out) (new1 hge_b19_)
     replace htd1 := htd1.fr hF20_ (htd1.neT ht19_)
     replace htd2 := htd2.fr hF20_ (htd2.apart ht19_ (by decide))
     replace htd0 := htd0.fr hF20_ (htd0.apart ht19_ (by decide))
     replace ht19_ : Tok H18_ _ b19_ 85 ([vi x1, .slice A17_0 r17_0.length c17_0]) := ⟨hB20_, ht19_.out⟩
     clear hF20_ hB20_
     refine Ops_nil ?_
     refine then_n (k16 _ _ ?_)
     clear k16 K16
     refine W_keepB [0, 7] fun B_ b_ => ?_
     simp only [e_, Nat.reduceAdd, Nat.reduceBEq] at b_
     subst b_
     refine W_seq_k fun K22 k22 => ?_
     refine W_seq_k fun K23 k23 => ?_
     refine W_drawF [27, 28, 29, 30, 31, 32, 33, 34, 35, 36, 37, 38, 39, 8] [(0, true), (1, true), (2, true), (3, true), (4, true), (5, true), (6, true), (7, true), (8, true), (9, true), (10, true), (11, false), (12, false), (13, true)] TJtE.hm rfl (by kernel_rfl) fun ops24_ w24_ hops24_ hF24_ => ?_
     replace hI := hI.fr0 hF24_
     replace htd1 := htd1.fr0 hF24_
     replace htd2 := htd2.fr0 hF24_
     replace htd0 := htd0.fr0 hF24_
     replace ht19_ := ht19_.fr0 hF24_
     clear hF24_
     refine HSp (R_move rfl) rfl rfl (HSp (R_nilCheck rfl) rfl rfl (HSp (R_fieldAddr fo46_1 rfl) rfl rfl ?_))
     refine HS_loadB (v := .pointer (some ⟨d2, 0, none⟩)) ag25 rfl htd0.blk rfl rfl rfl ?_
     refine HSp (R_move rfl) rfl rfl (HSp (R_nilCheck rfl) rfl rfl (HSp (R_fieldAddr fo46_0 rfl) rfl rfl (HSp (R_fieldAddr fo44_0 rfl) rfl rfl ?_)))
     refine HS_loadB (v := .slice Ad0_1 z0.book_.l_.length cd0_1) ag41 rfl htd0.blk rfl rfl rfl ?_
     refine HSp (R_len Try.underlying41 rfl rfl) rfl rfl ?_
     refine HS_loadN ag85 sz85 rfl ht19_.blk (Nat.le_of_ble_eq_true rfl) rfl rfl ?_
     refine HS_call [3] _ rfl (by rw [hops24_]; kernel_rfl) (C_func bd41 rfl) rfl rfl ?_
     refine (journal_tell_ok (x0 := (z0.book_.l_.length : Int)) (x1 := (journal_record.mk x1 r17_0)) hI.st (hg.up hI.le) ⟨A17_0, c17_0, rfl, ⟨hc18_, (hs18_.up hI.sub)⟩⟩ h).mono ?_
     rintro _ w25_ ⟨A25_0, c25_0, r25_0, L25_, H25_, rfl, hI25_, ho25_0, h⟩
     refine Exists.elim (hI.call hI25_ (by simp)) fun L250_ h25_ => ?_
     have hz25_ := hI.size
     replace hI := h25_.1
     have u25_ := h25_.2.1
     have hl25_ := h25_.2.2
     clear h25_
     replace hsd0_1 := hsd0_1.up u25_.hh
     replace hsd2_1 := hsd2_1.up u25_.hh
     replace hsd2_2 := hsd2_2.up u25_.hh
     replace hsd2_3 := hsd2_3.up u25_.hh
     replace htd1 := htd1.up u25_.hh u25_ (by simp)
     replace htd2 := htd2.up u25_ (by simp)
     replace htd0 := htd0.up u25_ (by simp)
     replace hs18_ := hs18_.up u25_.ll
     replace ht19_ := ht19_.up u25_ (by simp)
     replace ho25_0 := OwnS.backS ho25_0 hz25_ (Le.refl _)
     clear hI25_ u25_ hl25_
     refine ⟨_, rfl, ⟨(htd0.blk.at_ rfl), trivial⟩, ?_⟩
     refine Exists.elim (ho25_0.freeze hI) fun L26_ h26_ => Exists.elim h26_ fun H26_ h26_ => ?_
     replace hI := h26_.1
     have u26_ := h26_.2.1
     have hs26_ := h26_.2.2.1 (Le.no _)
     have hc26_ := ho25_0.cap
     replace hsd0_1 := hsd0_1.up u26_.hh
     replace hsd2_1 := hsd2_1.up u26_.hh
     replace hsd2_2 := hsd2_2.up u26_.hh
     replace hsd2_3 := hsd2_3.up u26_.hh
     replace htd1 := htd1.up u26_.hh u26_ (ho25_0.old hlt_d1)
     replace htd2 := htd2.up u26_ (ho25_0.old hlt_d2)
     replace htd0 := htd0.up u26_ (ho25_0.old hlt_d0)
     replace hs18_ := hs18_.up u26_.ll
     replace ht19_ := ht19_.up u26_ (ht19_.sep ho25_0 (by decide))
     clear h26_ u26_ ho25_0
     refine HS_call [] _ rfl (by rw [hops24_]; kernel_rfl) (C_func bd26 rfl) rfl rfl ?_
     refine (disk_Disk_Append_ok (x1 := 0) (x2 := r25_0) (z0 := z2) hI.st (hg.up hI.le) htd2 hcd2_1 hsd2_1 hcd2_2 hsd2_2 hcd2_3 hsd2_3 hc26_ (hs26_.up hI.sub) h).mono ?_
     rintro _ w27_ ⟨r27_0, y27_o0, A27_o0_1, c27_o0_1, A27_o0_2, c27_o0_2, A27_o0_3, c27_o0_3, L27_, H27_, rfl, hI27_, ht27_o0, hc27_o0_1, hs27_o0_1, hc27_o0_2, hs27_o0_2, hc27_o0_3, hs27_o0_3, h⟩
     refine Exists.elim (hI.call hI27_ (mem1 (by simp))) fun L270_ h27_ => ?_
     have hz27_ := hI.size
     replace hI := h27_.1
     have u27_ := h27_.2.1
     have hl27_ := h27_.2.2
     clear h27_
     replace hsd0_1 := hsd0_1.up u27_.hh
     replace hsd2_1 := hsd2_1.up u27_.hh
     replace hsd2_2 := hsd2_2.up u27_.hh
     replace hsd2_3 := hsd2_3.up u27_.hh
     replace htd1 := htd1.up u27_.hh u27_ (htd1.neT htd2)
     replace htd0 := htd0.up u27_ (htd0.apart htd2 (by decide))
     replace hs18_ := hs18_.up u27_.ll
     replace ht19_ := ht19_.up u27_ (ht19_.apart htd2 (by decide))
     clear htd2
     clear hI27_ u27_ hl27_
     refine ⟨_, rfl, trivial, ?_⟩
     refine HSp (R_assign rfl) rfl rfl ?_
     refine HS_nil ?_
     clear hops24_
     refine then_n (k23 _ _ ?_)
     clear k23 K23
     refine W_keepB [0, 7, 8] fun B_ b_ => ?_
     simp only [e_, Nat.reduceAdd, Nat.reduceBEq] at b_
     subst b_
     refine W_seq_k fun K29 k29 => ?_
     refine W_region [40, 41] rfl (Ops_step (R_move rfl) rfl rfl (Ops_step (R_neq rfl rfl) rfl rfl ?_))
     refine Ops_nil ?_
     refine then_n (k29 _ _ ?_)
     clear k29 K29
     refine W_if rfl (fun hc30_ => ?_) (fun hc30_ => ?_)
     ·
      replace h := h.1 hc30_
      refine W_seq_k fun K31 k31 => ?_
      refine W_region [42, 6] rfl (Ops_step (R_move rfl) rfl rfl (Ops_step (R_assign rfl) rfl rfl ?_))
      refine Ops_nil ?_
      refine then_n (k31 _ _ ?_)
      clear k31 K31
      refine W_keepB [6] fun B_ b_ => ?_
      simp only [e_, Nat.reduceAdd, Nat.reduceBEq] at b_
      subst b_
      refine W_ret ?_
      refine then_ret ?_
      clear k22 K22
      refine ⟨_, ⟨_, _, rfl, rfl, rfl⟩, ?_⟩
      exact ⟨r27_0, z0, Ad0_1, cd0_1, z1, y27_o0, A27_o0_1, c27_o0_1, A27_o0_2, c27_o0_2, A27_o0_3, c27_o0_3, _, _, rfl, hI, htd0, hcd0_1, hsd0_1, htd1, ht27_o0, hc27_o0_1, hs27_o0_1, hc27_o0_2, hs27_o0_2, hc27_o0_3, hs27_o0_3, h⟩
     ·
      replace h := h.2 hc30_
      refine W_skip ?_
      refine then_n (k22 _ _ ?_)
      clear k22 K22
      refine W_seq_k fun K33 k33 => ?_
      refine W_drawF [43, 44, 45, 46, 47] [(0, true), (1, true), (2, true), (3, true), (4, false)] TJtE.hm rfl (by kernel_rfl) fun ops34_ w34_ hops34_ hF34_ => ?_
      replace hI := hI.fr0 hF34_
      replace htd1 := htd1.fr0 hF34_
      replace htd0 := htd0.fr0 hF34_
      replace ht19_ := ht19_.fr0 hF34_
      replace ht27_o0 := ht27_o0.fr0 hF34_
      clear hF34_
      refine HSp (R_move rfl) rfl rfl (HSp (R_nilCheck rfl) rfl rfl (HSp (R_fieldAddr fo46_0 rfl) rfl rfl ?_))
      refine HS_loadN ag85 sz85 rfl ht19_.blk (Nat.le_of_ble_eq_true rfl) rfl rfl ?_
      refine HS_call [] _ rfl (by rw [hops34_]; kernel_rfl) (C_func bd43 rfl) rfl rfl ?_
      refine (journal_book_add_ok (x1 := (journal_record.mk x1 r17_0)) (z0 := z0) (z1 := z1) (z2 := y27_o0) hI.st (hg.up hI.le) htd1 ht27_o0 hc27_o0_1 hs27_o0_1 hc27_o0_2 hs27_o0_2 hc27_o0_3 hs27_o0_3 htd0 hcd0_1 hsd0_1 ⟨A17_0, c17_0, rfl, ⟨hc18_, (hs18_.up hI.sub)⟩⟩ h).mono ?_
      rintro _ w35_ ⟨y35_o0, A35_o0_1, c35_o0_1, y35_o1, L35_, H35_, rfl, hI35_, ht35_o0, hc35_o0_1, hs35_o0_1, ht35_o1, h⟩
      refine Exists.elim (hI.call hI35_ (memO (by simp) (memO (by simp) memN))) fun L350_ h35_ => ?_
      have hz35_ := hI.size
      replace hI := h35_.1
      have u35_ := h35_.2.1
      have hl35_ := h35_.2.2
      clear h35_
      replace hsd0_1 := hsd0_1.up u35_.hh
      replace ht19_ := ht19_.up u35_ (niA (ht19_.apart htd0 (by decide)) (niA (ht19_.neM htd1) List.not_mem_nil))
      replace ht27_o0 := ht27_o0.up u35_ (niA (ht27_o0.apart htd0 (by decide)) (niA (ht27_o0.neM htd1) List.not_mem_nil))
      replace hs27_o0_1 := hs27_o0_1.up u35_.hh
      replace hs27_o0_2 := hs27_o0_2.up u35_.hh
      replace hs27_o0_3 := hs27_o0_3.up u35_.hh
      clear htd0
      clear htd1
      clear hI35_ u35_ hl35_
      refine ⟨_, rfl, trivial, ?_⟩
      refine HS_nil ?_
      clear hops34_
      refine then_n (k33 _ _ ?_)
      clear k33 K33
      refine W_keepB [] fun B_ b_ => ?_
      simp only [e_, Nat.reduceAdd, Nat.reduceBEq] at b_
      subst b_
      refine W_seq_k fun K37 k37 => ?_
      refine W_region [6] rfl (Ops_step (R_assign rfl) rfl rfl ?_)
      refine Ops_nil ?_
      refine then_n (k37 _ _ ?_)
      clear k37 K37
      refine W_ret ?_
      refine ⟨_, ⟨_, _, rfl, rfl, rfl⟩, ?_⟩
      exact ⟨0, y35_o0, A35_o0_1, c35_o0_1, y35_o1, y27_o0, A27_o0_1, c27_o0_1, A27_o0_2, c27_o0_2, A27_o0_3, c27_o0_3, _, _, rfl, hI, ht35_o0, hc35_o0_1, hs35_o0_1, ht35_o1, ht27_o0, hc27_o0_1, hs27_o0_1, hc27_o0_2, hs27_o0_2, hc27_o0_3, hs27_o0_3, h⟩

theorem disk_Disk_Arm_ok {G : Gh} {w : World} (hS : St G w) (hg : GL G) {d0 : Nat} {z0 : disk_Disk} {Ad0_1 : Option Addr} {cd0_1 : Nat} {Ad0_2 : Option Addr} {cd0_2 : Nat} {Ad0_3 : Option Addr} {cd0_3 : Nat} (htd0 : Tok G w d0 53 ([.slice Ad0_1 z0.files_.e0_.length cd0_1, .slice Ad0_2 z0.files_.e1_.length cd0_2, .slice Ad0_3 z0.files_.e2_.length cd0_3, vi z0.room_, .bool z0.off_, .bool z0.armed_, vi z0.left_])) (hcd0_1 : z0.files_.e0_.length ≤ cd0_1) (hsd0_1 : Sl G Ad0_1 z0.files_.e0_) (hcd0_2 : z0.files_.e1_.length ≤ cd0_2) (hsd0_2 : Sl G Ad0_2 z0.files_.e1_) (hcd0_3 : z0.files_.e2_.length ≤ cd0_3) (hsd0_3 : Sl G Ad0_3 z0.files_.e2_) {x1 : Int} {Q : Int → disk_Disk → Prop} (h : disk_Disk_Arm z0 x1 Q) : Calls Try.prog 21 #[.pointer (some ⟨d0, 0, none⟩), vi x1] w fun e w2 => ∃ (r0 : Int) (y0 : disk_Disk) (Ay0_1 : Option Addr) (cy0_1 : Nat) (Ay0_2 : Option Addr) (cy0_2 : Nat) (Ay0_3 : Option Addr) (cy0_3 : Nat) (L H : Gh), e = .returned (vi r0) ∧ Inv [d0] G w L H w2 ∧ Tok H w2 d0 53 ([.slice Ay0_1 y0.files_.e0_.length cy0_1, .slice Ay0_2 y0.files_.e1_.length cy0_2, .slice Ay0_3 y0.files_.e2_.length cy0_3, vi y0.room_, .bool y0.off_, .bool y0.armed_, vi y0.left_]) ∧ y0.files_.e0_.length ≤ cy0_1 ∧ Sl H Ay0_1 y0.files_.e0_ ∧ y0.files_.e1_.length ≤ cy0_2 ∧ Sl H Ay0_2 y0.files_.e1_ ∧ y0.files_.e2_.length ≤ cy0_3 ∧ Sl H Ay0_3 y0.files_.e2_ ∧ Q r0 y0 := by
 unfold disk_Disk_Arm at h
 have hI := Inv.start (M := [d0]) hS
 refine calls_W 22 Try.func21 rfl Try.ntmps21 rfl [.tmp 4] rfl ?_
 have hlt_d0 := htd0.blk.lt
 refine W_seq_k fun K1 k1 => ?_
 refine W_region [4] rfl (Ops_step (R_assign rfl) rfl rfl ?_)
 refine Ops_nil ?_
 refine then_n (k1 _ _ ?_)
 clear k1 K1
 refine W_seq_k fun K2 k2 => ?_
 refine W_region [6, 7, 5] rfl (Ops_step (R_move rfl) rfl rfl ?_)
 refine Ops_call (C_func bd48 rfl) rfl rfl ?_
 refine (disk_Disk_able_ok (x1 := 0) (z0 := z0) hI.st (hg.up hI.le) htd0 hcd0_1 hsd0_1 hcd0_2 hsd0_2 hcd0_3 hsd0_3 h).mono ?_
 rintro _ w3_ ⟨r3_0, L3_, H3_, rfl, hI3_, h⟩
 refine Exists.elim (hI.call hI3_ (by simp)) fun L30_ h3_ => ?_
 have hz3_ := hI.size
 replace hI := h3_.1
 have u3_ := h3_.2.1
 have hl3_ := h3_.2.2
 clear h3_
 replace hsd0_1 := hsd0_1.up u3_.hh
 replace hsd0_2 := hsd0_2.up u3_.hh
 replace hsd0_3 := hsd0_3.up u3_.hh
 replace htd0 := htd0.up u3_ (by simp)
 clear hI3_ u3_ hl3_
 refine ⟨_, rfl, ?_⟩
 refine Ops_step (R_assign rfl) rfl rfl ?_
 refine Ops_nil ?_
 refine then_n (k2 _ _ ?_)
 clear k2 K2
 refine W_seq_k fun K4 k4 => ?_
 refine W_block ?_
 refine W_seq_k fun K5 k5 => ?_
 refine W_region [9, 10, 8] rfl (Ops_step (R_move rfl) rfl rfl (Ops_step (R_neq rfl rfl) rfl rfl (Ops_step (R_assign rfl) rfl rfl ?_)))
 refine Ops_nil ?_
 refine then_n (k5 _ _ ?_)
 clear k5 K5
 refine W_if rfl (fun hc6_ => ?_) (fun hc6_ => ?_)
 ·
  replace h := h.1 hc6_
  refine W_seq_k fun K7 k7 => ?_
  refine W_region [11, 4] rfl (Ops_step (R_move rfl) rfl rfl (Ops_step (R_assign rfl) rfl rfl ?_))
  refine Ops_nil ?_
  refine then_n (k7 _ _ ?_)
  clear k7 K7
  refine W_keepB [4] fun B_ b_ => ?_
  simp only [e_, Nat.reduceAdd, Nat.reduceBEq] at b_
  subst b_
  refine W_ret ?_
  refine block_ret ?_
  refine then_ret ?_
  clear k4 K4
  refine ⟨_, ⟨_, _, rfl, rfl, rfl⟩, ?_⟩
  exact ⟨r3_0, z0, Ad0_1, cd0_1, Ad0_2, cd0_2, Ad0_3, cd0_3, _, _, rfl, hI, htd0, hcd0_1, hsd0_1, hcd0_2, hsd0_2, hcd0_3, hsd0_3, h⟩
 ·
  replace h := h.2 hc6_
  refine W_seq_k fun K9 k9 => ?_
  refine W_region [13, 14, 12] rfl (Ops_step (R_move rfl) rfl rfl (Ops_step (R_lss rfl rfl) rfl rfl (Ops_step (R_assign rfl) rfl rfl ?_)))
  refine Ops_nil ?_
  refine then_n (k9 _ _ ?_)
  clear k9 K9
  refine W_keepB [0, 1, 12] fun B_ b_ => ?_
  simp only [e_, Nat.reduceAdd, Nat.reduceBEq] at b_
  subst b_
  refine W_if rfl (fun hc11_ => ?_) (fun hc11_ => ?_)
  ·
   replace h := h.1 hc11_
   refine W_seq_k fun K12 k12 => ?_
   refine W_region [4] rfl (Ops_step (R_assign rfl) rfl rfl ?_)
   refine Ops_nil ?_
   refine then_n (k12 _ _ ?_)
   clear k12 K12
   refine W_ret ?_
   refine block_ret ?_
   refine then_ret ?_
   clear k4 K4
   refine ⟨_, ⟨_, _, rfl, rfl, rfl⟩, ?_⟩
   exact ⟨1, z0, Ad0_1, cd0_1, Ad0_2, cd0_2, Ad0_3, cd0_3, _, _, rfl, hI, htd0, hcd0_1, hsd0_1, hcd0_2, hsd0_2, hcd0_3, hsd0_3, h⟩
  ·
   replace h := h.2 hc11_
   refine W_skip ?_
   refine block_n ?_
   refine then_n (k4 _ _ ?_)
   clear k4 K4
   refine W_seq_k fun K13 k13 => ?_
   refine W_region [15, 16, 17, 18, 19, none, 20, 21, none] rfl (Ops_step (R_move rfl) rfl rfl (Ops_step (R_move rfl) rfl rfl (Ops_step (R_move rfl) rfl rfl (Ops_step (R_nilCheck rfl) rfl rfl ?_))))
   refine Ops_step (R_fieldAddr fo53_3 rfl) rfl rfl ?_
   refine Ops_to0 (R_store sz4 rfl rfl htd0.blk (by show 5 < 7; decide) rfl) rfl ?_
   rintro _ w14_ ⟨hB14_, hF14_⟩
   replace hI := hI.tok hF14_ (out1 htd0.out) (mem1 (by simp))
   replace htd0 : Tok H3_ _ d0 53 ([.slice Ad0_1 z0.files_.e0_.length cd0_1, .slice Ad0_2 z0.files_.e1_.length cd0_2, .slice Ad0_3 z0.files_.e2_.length cd0_3, vi z0.room_, .bool z0.off_, .bool true, vi z0.left_]) := ⟨hB14_, htd0.out⟩
   clear hF14_ hB14_
   refine Ops_step (R_nilCheck rfl) rfl rfl (Ops_step (R_fieldAddr fo53_4 rfl) rfl rfl ?_)
   refine Ops_to0 (R_store sz3 rfl rfl htd0.blk (by show 6 < 7; decide) rfl) rfl ?_
   rintro _ w15_ ⟨hB15_, hF15_⟩
   replace hI := hI.tok hF15_ (out1 htd0.out) (mem1 (by simp))
   replace htd0 : Tok H3_ _ d0 53 ([.slice Ad0_1 z0.files_.e0_.length cd0_1, .slice Ad0_2 z0.files_.e1_.length cd0_2, .slice Ad0_3 z0.files_.e2_.length cd0_3, vi z0.room_, .bool z0.off_, .bool true, vi x1]) := ⟨hB15_, htd0.out⟩
   clear hF15_ hB15_
   refine Ops_nil ?_
   refine then_n (k13 _ _ ?_)
   clear k13 K13
   refine W_keepB [] fun B_ b_ => ?_
   simp only [e_, Nat.reduceAdd, Nat.reduceBEq] at b_
   subst b_
   refine W_seq_k fun K17 k17 => ?_
   refine W_region [4] rfl (Ops_step (R_assign rfl) rfl rfl ?_)
   refine Ops_nil ?_
   refine then_n (k17 _ _ ?_)
   clear k17 K17
   refine W_ret ?_
   refine ⟨_, ⟨_, _, rfl, rfl, rfl⟩, ?_⟩
   exact ⟨0, (disk_Disk.mk z0.files_ z0.room_ z0.off_ true x1), Ad0_1, cd0_1, Ad0_2, cd0_2, Ad0_3, cd0_3, _, _, rfl, hI, htd0, hcd0_1, hsd0_1, hcd0_2, hsd0_2, hcd0_3, hsd0_3, h⟩

theorem disk_Disk_Start_ok {G : Gh} {w : World} (hS : St G w) (hg : GL G) {d0 : Nat} {z0 : disk_Disk} {Ad0_1 : Option Addr} {cd0_1 : Nat} {Ad0_2 : Option Addr} {cd0_2 : Nat} {Ad0_3 : Option Addr} {cd0_3 : Nat} (htd0 : Tok G w d0 53 ([.slice Ad0_1 z0.files_.e0_.length cd0_1, .slice Ad0_2 z0.files_.e1_.length cd0_2, .slice Ad0_3 z0.files_.e2_.length cd0_3, vi z0.room_, .bool z0.off_, .bool z0.armed_, vi z0.left_])) (hcd0_1 : z0.files_.e0_.length ≤ cd0_1) (hsd0_1 : Sl G Ad0_1 z0.files_.e0_) (hcd0_2 : z0.files_.e1_.length ≤ cd0_2) (hsd0_2 : Sl G Ad0_2 z0.files_.e1_) (hcd0_3 : z0.files_.e2_.length ≤ cd0_3) (hsd0_3 : Sl G Ad0_3 z0.files_.e2_) {Q : Int → disk_Disk → Prop} (h : disk_Disk_Start z0 Q) : Calls Try.prog 22 #[.pointer (some ⟨d0, 0, none⟩)] w fun e w2 => ∃ (r0 : Int) (y0 : disk_Disk) (Ay0_1 : Option Addr) (cy0_1 : Nat) (Ay0_2 : Option Addr) (cy0_2 : Nat) (Ay0_3 : Option Addr) (cy0_3 : Nat) (L H : Gh), e = .returned (vi r0) ∧ Inv [d0] G w L H w2 ∧ Tok H w2 d0 53 ([.slice Ay0_1 y0.files_.e0_.length cy0_1, .slice Ay0_2 y0.files_.e1_.length cy0_2, .slice Ay0_3 y0.files_.e2_.length cy0_3, vi y0.room_, .bool y0.off_, .bool y0.armed_, vi y0.left_]) ∧ y0.files_.e0_.length ≤ cy0_1 ∧ Sl H Ay0_1 y0.files_.e0_ ∧ y0.files_.e1_.length ≤ cy0_2 ∧ Sl H Ay0_2 y0.files_.e1_ ∧ y0.files_.e2_.length ≤ cy0_3 ∧ Sl H Ay0_3 y0.files_.e2_ ∧ Q r0 y0 := by
 unfold disk_Disk_Start at h
 have hI := Inv.start (M := [d0]) hS
 refine calls_W 15 Try.func22 rfl Try.ntmps22 rfl [.tmp 2] rfl ?_
 have hlt_d0 := htd0.blk.lt
 refine W_seq_k fun K1 k1 => ?_
 refine W_region [2] rfl (Ops_step (R_assign rfl) rfl rfl ?_)
 refine Ops_nil ?_
 refine then_n (k1 _ _ ?_)
 clear k1 K1
 refine W_seq_k fun K2 k2 => ?_
 refine ex_ h fun J3_ hr3_ h => ?_
 refine W_seq_join [0] [11] (fun vals_ w2 => ∃ (x11_3 : Bool) (L H : Gh), vals_ = [.bool x11_3] ∧ J3_ x11_3 ∧ Inv [d0] G w L H w2 ∧ Le Gh.no L ∧ Le G H ∧ Tok H w2 d0 53 ([.slice Ad0_1 z0.files_.e0_.length cd0_1, .slice Ad0_2 z0.files_.e1_.length cd0_2, .slice Ad0_3 z0.files_.e2_.length cd0_3, vi z0.room_, .bool z0.off_, .bool z0.armed_, vi z0.left_]) ∧ True) (fun B_ b_ => ?_) (fun B_ b_ => ?_)
 ·
  simp only [e_, Nat.reduceAdd, Nat.reduceBEq] at b_
  subst b_
  clear hr3_
  have hll3_ := Le.refl Gh.no
  have hhh3_ := Le.refl G
  refine W_region [3, 4, 5, 6, 7, 8, 9, 10, 11] rfl (Ops_step (R_move rfl) rfl rfl (Ops_step (R_ptrNil Try.underlying25 rfl rfl) rfl rfl (Ops_step (R_move rfl) rfl rfl (Ops_step (R_move rfl) rfl rfl ?_))))
  refine Ops_step (R_nilCheck rfl) rfl rfl (Ops_step (R_fieldAddr fo53_1 rfl) rfl rfl ?_)
  refine Ops_step (R_loadB (v := vi z0.room_) ag3 rfl htd0.blk rfl) rfl rfl ?_
  refine Ops_step (R_eql rfl rfl) rfl rfl (Ops_step (R_pick_false rfl rfl) rfl rfl ?_)
  refine Ops_nil ?_
  refine then_n ?_
  exact ⟨_, rfl, ⟨(decide (z0.room_ = 0)), _, _, rfl, h, hI, hll3_, hhh3_, htd0, trivial⟩, ⟨rfl, trivial⟩⟩
 ·
  simp only [e_, Nat.reduceAdd, Nat.reduceBEq] at b_
  subst b_
  clear h
  clear htd0
  rintro _ w3_ ⟨x11_3, L3_, H3_, rfl, hJ3_, hI3_, hll3_, hhh3_, htd0, -⟩
  replace hI := hI3_
  clear hI3_
  have h := hr3_ x11_3 hJ3_
  clear hr3_ hJ3_
  replace hsd0_1 := hsd0_1.up hhh3_
  replace hsd0_2 := hsd0_2.up hhh3_
  replace hsd0_3 := hsd0_3.up hhh3_
  refine W_cond rfl (fun hc4_ => ?_) (fun hc4_ => ?_)
  ·
   replace h := h.1 hc4_
   refine W_seq_k fun K5 k5 => ?_
   refine W_region [2] rfl (Ops_step (R_assign rfl) rfl rfl ?_)
   refine Ops_nil ?_
   refine then_n (k5 _ _ ?_)
   clear k5 K5
   refine W_ret ?_
   refine then_ret ?_
   clear k2 K2
   refine ⟨_, ⟨_, _, rfl, rfl, rfl⟩, ?_⟩
   exact ⟨6, z0, Ad0_1, cd0_1, Ad0_2, cd0_2, Ad0_3, cd0_3, _, _, rfl, hI, htd0, hcd0_1, hsd0_1, hcd0_2, hsd0_2, hcd0_3, hsd0_3, h⟩
  ·
   replace h := h.2 hc4_
   refine W_skip ?_
   refine then_n (k2 _ _ ?_)
   clear k2 K2
   refine W_seq_k fun K6 k6 => ?_
   refine W_region [12, 13, 14, none] rfl (Ops_step (R_move rfl) rfl rfl (Ops_step (R_nilCheck rfl) rfl rfl (Ops_step (R_fieldAddr fo53_2 rfl) rfl rfl ?_)))
   refine Ops_to0 (R_store sz4 rfl rfl htd0.blk (by show 4 < 7; decide) rfl) rfl ?_
   rintro _ w7_ ⟨hB7_, hF7_⟩
   replace hI := hI.tok hF7_ (out1 htd0.out) (mem1 (by simp))
   replace htd0 : Tok H3_ _ d0 53 ([.slice Ad0_1 z0.files_.e0_.length cd0_1, .slice Ad0_2 z0.files_.e1_.length cd0_2, .slice Ad0_3 z0.files_.e2_.length cd0_3, vi z0.room_, .bool false, .bool z0.armed_, vi z0.left_]) := ⟨hB7_, htd0.out⟩
   clear hF7_ hB7_
   refine Ops_nil ?_
   refine then_n (k6 _ _ ?_)
   clear k6 K6
   refine W_seq_k fun K8 k8 => ?_
   refine W_region [2] rfl (Ops_step (R_assign rfl) rfl rfl ?_)
   refine Ops_nil ?_
   refine then_n (k8 _ _ ?_)
   clear k8 K8
   refine W_ret ?_
   refine ⟨_, ⟨_, _, rfl, rfl, rfl⟩, ?_⟩
   exact ⟨0, (disk_Disk.mk z0.files_ z0.room_ false z0.armed_ z0.left_), Ad0_1, cd0_1, Ad0_2, cd0_2, Ad0_3, cd0_3, _, _, rfl, hI, htd0, hcd0_1, hsd0_1, hcd0_2, hsd0_2, hcd0_3, hsd0_3, h⟩

theorem journal_Journal_At_ok {G : Gh} {w : World} (hS : St G w) (hg : GL G) {d0 : Nat} {z0 : journal_Journal} {Ad0_1 : Option Addr} {cd0_1 : Nat} {d1 : Nat} {z1 : List (Int × Int)} (htd1 : MTok G G w d1 z1) {d2 : Nat} {z2 : disk_Disk} {Ad2_1 : Option Addr} {cd2_1 : Nat} {Ad2_2 : Option Addr} {cd2_2 : Nat} {Ad2_3 : Option Addr} {cd2_3 : Nat} (htd2 : Tok G w d2 53 ([.slice Ad2_1 z2.files_.e0_.length cd2_1, .slice Ad2_2 z2.files_.e1_.length cd2_2, .slice Ad2_3 z2.files_.e2_.length cd2_3, vi z2.room_, .bool z2.off_, .bool z2.armed_, vi z2.left_])) (hcd2_1 : z2.files_.e0_.length ≤ cd2_1) (hsd2_1 : Sl G Ad2_1 z2.files_.e0_) (hcd2_2 : z2.files_.e1_.length ≤ cd2_2) (hsd2_2 : Sl G Ad2_2 z2.files_.e1_) (hcd2_3 : z2.files_.e2_.length ≤ cd2_3) (hsd2_3 : Sl G Ad2_3 z2.files_.e2_) (htd0 : Tok G w d0 46 ([.slice Ad0_1 z0.book_.l_.length cd0_1, .map (some d1), .pointer (some ⟨d2, 0, none⟩), vi z0.gen_, vi z0.place_])) (hcd0_1 : z0.book_.l_.length ≤ cd0_1) (hsd0_1 : Sl G Ad0_1 z0.book_.l_) {x1 : Int} {Q : Int → (List UInt8) → Bool → Prop} (h : journal_Journal_At z0 z1 z2 x1 Q) : Calls Try.prog 18 #[.pointer (some ⟨d0, 0, none⟩), vi x1] w fun e w2 => ∃ (r0 : Int) (A1 : Option Addr) (c1 : Nat) (r1 : List UInt8) (r2 : Bool) (L H : Gh), e = .returned (.tuple #[vi r0, .slice A1 r1.length c1, .bool r2]) ∧ Inv [] G w L H w2 ∧ OwnS w.heap.size 5 L H w2 A1 c1 r1 ∧ Q r0 r1 r2 := by
 unfold journal_Journal_At at h
 have hI := Inv.start (M := []) hS
 refine calls_W 42 Try.func18 rfl Try.ntmps18 rfl [.tmp 4, .tmp 5, .tmp 6] rfl ?_
 have hlt_d0 := htd0.blk.lt
 have hlt_d1 := htd1.lt
 have hlt_d2 := htd2.blk.lt
 refine W_seq_k fun K1 k1 => ?_
 refine W_region [4, 5, 6] rfl (Ops_step (R_assign rfl) rfl rfl (Ops_step (R_assign rfl) rfl rfl (Ops_step (R_assign rfl) rfl rfl ?_)))
 refine Ops_nil ?_
 refine then_n (k1 _ _ ?_)
 clear k1 K1
 refine W_seq_k fun K2 k2 => ?_
 refine ex_ h fun J3_ hr3_ h => ?_
 refine W_seq_join [0, 1] [22] (fun vals_ w2 => ∃ (x22_3 : Bool) (L H : Gh), vals_ = [.bool x22_3] ∧ J3_ x22_3 ∧ Inv [] G w L H w2 ∧ Le Gh.no L ∧ Le G H ∧ MTok H H w2 d1 z1 ∧ Tok H w2 d2 53 ([.slice Ad2_1 z2.files_.e0_.length cd2_1, .slice Ad2_2 z2.files_.e1_.length cd2_2, .slice Ad2_3 z2.files_.e2_.length cd2_3, vi z2.room_, .bool z2.off_, .bool z2.armed_, vi z2.left_]) ∧ Tok H w2 d0 46 ([.slice Ad0_1 z0.book_.l_.length cd0_1, .map (some d1), .pointer (some ⟨d2, 0, none⟩), vi z0.gen_, vi z0.place_]) ∧ True) (fun B_ b_ => ?_) (fun B_ b_ => ?_)
 ·
  simp only [e_, Nat.reduceAdd, Nat.reduceBEq] at b_
  subst b_
  clear hr3_
  have hll3_ := Le.refl Gh.no
  have hhh3_ := Le.refl G
  refine W_region [7, 8, 9, 10, 11, 12, 13, 14, 15, 16, 17, 18, 19, 20, 21, 22] rfl (Ops_step (R_move rfl) rfl rfl ?_)
  refine Ops_call (C_func bd39 rfl) rfl rfl ?_
  refine (journal_Journal_dead_ok (z0 := z0) (z1 := z1) (z2 := z2) hI.st (hg.up hI.le) htd1 htd2 hcd2_1 hsd2_1 hcd2_2 hsd2_2 hcd2_3 hsd2_3 htd0 hcd0_1 hsd0_1 h).mono ?_
  rintro _ w4_ ⟨r4_0, L4_, H4_, rfl, hI4_, h⟩
  refine Exists.elim (hI.call hI4_ (by simp)) fun L40_ h4_ => ?_
  have hz4_ := hI.size
  replace hI := h4_.1
  have u4_ := h4_.2.1
  have hl4_ := h4_.2.2
  clear h4_
  replace hsd0_1 := hsd0_1.up u4_.hh
  replace htd1 := htd1.up u4_.hh u4_ (by simp)
  replace hsd2_1 := hsd2_1.up u4_.hh
  replace hsd2_2 := hsd2_2.up u4_.hh
  replace hsd2_3 := hsd2_3.up u4_.hh
  replace htd2 := htd2.up u4_ (by simp)
  replace htd0 := htd0.up u4_ (by simp)
  replace hll3_ := hll3_.trans u4_.ll
  replace hhh3_ := hhh3_.trans u4_.hh
  clear hI4_ u4_ hl4_
  refine ⟨_, rfl, ?_⟩
  refine Ops_step (R_move rfl) rfl rfl ?_
  refine Ops_splitB 9 rfl (fun hg5_ => ?_) (fun hg5_ => ?_)
  ·
   replace h := h.1 hg5_
   refine Ops_pass rfl rfl (Ops_pass rfl rfl (Ops_step (R_pick_true rfl rfl) rfl rfl (Ops_step (R_move rfl) rfl rfl (Ops_pass rfl rfl ?_))))
   refine Ops_pass rfl rfl (Ops_pass rfl rfl (Ops_pass rfl rfl (Ops_pass rfl rfl (Ops_pass rfl rfl ?_))))
   refine Ops_pass rfl rfl (Ops_pass rfl rfl (Ops_step (R_pick_true rfl rfl) rfl rfl ?_))
   refine Ops_nil ?_
   refine then_n ?_
   exact ⟨_, rfl, ⟨true, _, _, rfl, h, hI, hll3_, hhh3_, htd1, htd2, htd0, trivial⟩, ⟨rfl, rfl, trivial⟩⟩
  ·
   replace h := h.2 hg5_
   refine Ops_step (R_move rfl) rfl rfl (Ops_step (R_lss rfl rfl) rfl rfl (Ops_step (R_pick_false rfl rfl) rfl rfl (Ops_step (R_move rfl) rfl rfl ?_)))
   refine Ops_split 13 rfl (fun hg6_ => ?_) (fun hg6_ => ?_)
   ·
    replace h := h.1 hg6_
    refine Ops_pass rfl rfl (Ops_pass rfl rfl (Ops_pass rfl rfl (Ops_pass rfl rfl (Ops_pass rfl rfl ?_))))
    refine Ops_pass rfl rfl (Ops_pass rfl rfl (Ops_pass rfl rfl (Ops_step (R_pick_true rfl rfl) rfl rfl ?_)))
    refine Ops_nil ?_
    refine then_n ?_
    exact ⟨_, rfl, ⟨true, _, _, rfl, h, hI, hll3_, hhh3_, htd1, htd2, htd0, trivial⟩, ⟨rfl, rfl, trivial⟩⟩
   ·
    replace h := h.2 hg6_
    refine Ops_step (R_move rfl) rfl rfl (Ops_step (R_move rfl) rfl rfl (Ops_step (R_nilCheck rfl) rfl rfl (Ops_step (R_fieldAddr fo46_0 rfl) rfl rfl (Ops_step (R_fieldAddr fo44_0 rfl) rfl rfl ?_))))
    refine Ops_step (R_loadB (v := .slice Ad0_1 z0.book_.l_.length cd0_1) ag41 rfl htd0.blk rfl) rfl rfl ?_
    refine Ops_step (R_len Try.underlying41 rfl rfl) rfl rfl (Ops_step (R_geq rfl rfl) rfl rfl (Ops_step (R_pick_false rfl rfl) rfl rfl ?_))
    refine Ops_nil ?_
    refine then_n ?_
    exact ⟨_, rfl, ⟨(decide (x1 ≥ (z0.book_.l_.length : Int))), _, _, rfl, h, hI, hll3_, hhh3_, htd1, htd2, htd0, trivial⟩, ⟨rfl, rfl, trivial⟩⟩
 ·
  simp only [e_, Nat.reduceAdd, Nat.reduceBEq] at b_
  subst b_
  clear h
  clear htd0
  clear htd1
  clear htd2
  rintro _ w3_ ⟨x22_3, L3_, H3_, rfl, hJ3_, hI3_, hll3_, hhh3_, htd1, htd2, htd0, -⟩
  replace hI := hI3_
  clear hI3_
  have h := hr3_ x22_3 hJ3_
  clear hr3_ hJ3_
  replace hsd0_1 := hsd0_1.up hhh3_
  replace hsd2_1 := hsd2_1.up hhh3_
  replace hsd2_2 := hsd2_2.up hhh3_
  replace hsd2_3 := hsd2_3.up hhh3_
  refine W_cond rfl (fun hc7_ => ?_) (fun hc7_ => ?_)
  ·
   replace h := h.1 hc7_
   refine W_seq_k fun K8 k8 => ?_
   refine W_region [4, 5, 6] rfl (Ops_step (R_assign rfl) rfl rfl (Ops_step (R_assign rfl) rfl rfl (Ops_step (R_assign rfl) rfl rfl ?_)))
   refine Ops_nil ?_
   refine then_n (k8 _ _ ?_)
   clear k8 K8
   refine W_ret ?_
   refine then_ret ?_
   clear k2 K2
   refine ⟨_, ⟨_, _, rfl, rfl, ⟨_, _, rfl, rfl, ⟨_, _, rfl, rfl, rfl⟩⟩⟩, ?_⟩
   exact ⟨0, none, 0, [], false, _, _, rfl, hI, OwnS.nil, h⟩
  ·
   replace h := h.2 hc7_
   refine W_skip ?_
   refine then_n (k2 _ _ ?_)
   clear k2 K2
   refine W_seq_k fun K9 k9 => ?_
   refine W_drawF [23, 24, 25, 26, 27, 28, 29, 30, 31, 32, 33, 34, 35, 36, 37, 38, 39, 40, 41, 4, 5, 6] [(0, true), (1, true), (2, true), (3, true), (4, true), (5, true), (6, true), (7, true), (8, true), (9, true), (10, true), (11, true), (12, true), (13, true), (14, true), (15, true), (16, true), (17, true), (18, false), (19, true), (20, true), (21, true)] TJtE.hm rfl (by kernel_rfl) fun ops10_ w10_ hops10_ hF10_ => ?_
   replace hI := hI.fr0 hF10_
   replace htd1 := htd1.fr0 hF10_
   replace htd2 := htd2.fr0 hF10_
   replace htd0 := htd0.fr0 hF10_
   clear hF10_
   refine HSp (R_move rfl) rfl rfl (HSp (R_nilCheck rfl) rfl rfl (HSp (R_fieldAddr fo46_0 rfl) rfl rfl (HSp (R_fieldAddr fo44_0 rfl) rfl rfl ?_)))
   refine HS_loadB (v := .slice Ad0_1 z0.book_.l_.length cd0_1) ag41 rfl htd0.blk rfl rfl rfl ?_
   refine HSp (R_move rfl) rfl rfl ?_
   refine ex_ h fun x11_ hx11_ h => ?_
   have ha11_ := (Sl.atN (n := 2) rfl (by decide) hsd0_1 hx11_).1
   refine Exists.elim (Sl.atN (n := 2) rfl (by decide) hsd0_1 hx11_).2 fun l11_ hA11_ => ?_
   have hr11_ := hA11_.1
   have hg11_ := hA11_.2
   clear hA11_
   refine HSp (R_indexSl Try.underlying41 sz85 rfl rfl hx11_.1 hx11_.lt ha11_) rfl rfl ?_
   obtain ⟨A11_1, c11_1, rfl, ⟨hc11_1, hs11_1⟩⟩ := hr11_
   refine HSp (R_fieldAddr' fo85_0 rfl) rfl rfl ?_
   refine HS_load (v := vi x11_.label_) ag3 rfl (hI.st _ _ (hg11_ 0 _ rfl)) rfl rfl ?_
   refine HSp (R_move rfl) rfl rfl (HSp (R_nilCheck rfl) rfl rfl (HSp (R_fieldAddr fo46_0 rfl) rfl rfl (HSp (R_fieldAddr fo44_0 rfl) rfl rfl ?_)))
   refine HS_loadB (v := .slice Ad0_1 z0.book_.l_.length cd0_1) ag41 rfl htd0.blk rfl rfl rfl ?_
   refine HSp (R_move rfl) rfl rfl ?_
   refine ex_ h fun x12_ hx12_ h => ?_
   have ha12_ := (Sl.atN (n := 2) rfl (by decide) hsd0_1 hx12_).1
   refine Exists.elim (Sl.atN (n := 2) rfl (by decide) hsd0_1 hx12_).2 fun l12_ hA12_ => ?_
   have hr12_ := hA12_.1
   have hg12_ := hA12_.2
   clear hA12_
   refine HSp (R_indexSl Try.underlying41 sz85 rfl rfl hx12_.1 hx12_.lt ha12_) rfl rfl ?_
   obtain ⟨A12_1, c12_1, rfl, ⟨hc12_1, hs12_1⟩⟩ := hr12_
   refine HSp (R_fieldAddr' fo85_1 rfl) rfl rfl ?_
   refine HS_load (v := .slice A12_1 x12_.data_.length c12_1) ag29 rfl (hI.st _ _ (hg12_ 1 _ rfl)) rfl rfl ?_
   refine HS_call [8, 4] _ rfl (by rw [hops10_]; kernel_rfl) (C_func bd32 rfl) rfl rfl ?_
   refine (slices_Clone_sl_byte_byte_ok (x0 := x12_.data_) hI.st (hg.up hI.le) hc12_1 hs12_1 h).mono ?_
   rintro _ w13_ ⟨A13_0, c13_0, r13_0, L13_, H13_, rfl, hI13_, ho13_0, h⟩
   refine Exists.elim (hI.call hI13_ (by simp)) fun L130_ h13_ => ?_
   have hz13_ := hI.size
   replace hI := h13_.1
   have u13_ := h13_.2.1
   have hl13_ := h13_.2.2
   clear h13_
   replace hsd0_1 := hsd0_1.up u13_.hh
   replace hsd2_1 := hsd2_1.up u13_.hh
   replace hsd2_2 := hsd2_2.up u13_.hh
   replace hsd2_3 := hsd2_3.up u13_.hh
   replace htd1 := htd1.up u13_.hh u13_ (by simp)
   replace htd2 := htd2.up u13_ (by simp)
   replace htd0 := htd0.up u13_ (by simp)
   replace hg11_ := fun j_ v_ k_ => u13_.hh _ _ (hg11_ j_ v_ k_)
   replace hg12_ := fun j_ v_ k_ => u13_.hh _ _ (hg12_ j_ v_ k_)
   replace ho13_0 := OwnS.backS ho13_0 hz13_ (Le.refl _)
   clear hI13_ u13_ hl13_
   refine ⟨_, rfl, ⟨(hI.st _ _ (hg11_ 0 _ rfl)), (htd0.blk.at_ rfl), trivial⟩, ?_⟩
   refine HSp (R_assign rfl) rfl rfl (HSp (R_assign rfl) rfl rfl (HSp (R_assign rfl) rfl rfl ?_))
   refine HS_nil ?_
   clear hops10_
   refine then_n (k9 _ _ ?_)
   clear k9 K9
   refine W_keepB [4, 5, 6] fun B_ b_ => ?_
   simp only [e_, Nat.reduceAdd, Nat.reduceBEq] at b_
   subst b_
   refine W_ret ?_
   refine ⟨_, ⟨_, _, rfl, rfl, ⟨_, _, rfl, rfl, ⟨_, _, rfl, rfl, rfl⟩⟩⟩, ?_⟩
   exact ⟨x11_.label_, A13_0, c13_0, r13_0, true, _, _, rfl, hI, (ho13_0.hl (Le.no _)), h⟩

theorem journal_Journal_Len_ok {G : Gh} {w : World} (hS : St G w) (hg : GL G) {d0 : Nat} {z0 : journal_Journal} {Ad0_1 : Option Addr} {cd0_1 : Nat} {d1 : Nat} {z1 : List (Int × Int)} (htd1 : MTok G G w d1 z1) {d2 : Nat} {z2 : disk_Disk} {Ad2_1 : Option Addr} {cd2_1 : Nat} {Ad2_2 : Option Addr} {cd2_2 : Nat} {Ad2_3 : Option Addr} {cd2_3 : Nat} (htd2 : Tok G w d2 53 ([.slice Ad2_1 z2.files_.e0_.length cd2_1, .slice Ad2_2 z2.files_.e1_.length cd2_2, .slice Ad2_3 z2.files_.e2_.length cd2_3, vi z2.room_, .bool z2.off_, .bool z2.armed_, vi z2.left_])) (hcd2_1 : z2.files_.e0_.length ≤ cd2_1) (hsd2_1 : Sl G Ad2_1 z2.files_.e0_) (hcd2_2 : z2.files_.e1_.length ≤ cd2_2) (hsd2_2 : Sl G Ad2_2 z2.files_.e1_) (hcd2_3 : z2.files_.e2_.length ≤ cd2_3) (hsd2_3 : Sl G Ad2_3 z2.files_.e2_) (htd0 : Tok G w d0 46 ([.slice Ad0_1 z0.book_.l_.length cd0_1, .map (some d1), .pointer (some ⟨d2, 0, none⟩), vi z0.gen_, vi z0.place_])) (hcd0_1 : z0.book_.l_.length ≤ cd0_1) (hsd0_1 : Sl G Ad0_1 z0.book_.l_) {Q : Int → Prop} (h : journal_Journal_Len z0 z1 z2 Q) : Calls Try.prog 19 #[.pointer (some ⟨d0, 0, none⟩)] w fun e w2 => ∃ (r0 : Int) (L H : Gh), e = .returned (vi r0) ∧ Inv [] G w L H w2 ∧ Q r0 := by
 unfold journal_Journal_Len at h
 have hI := Inv.start (M := []) hS
 refine calls_W 11 Try.func19 rfl Try.ntmps19 rfl [.tmp 2] rfl ?_
 have hlt_d0 := htd0.blk.lt
 have hlt_d1 := htd1.lt
 have hlt_d2 := htd2.blk.lt
 refine W_seq_k fun K1 k1 => ?_
 refine W_region [2] rfl (Ops_step (R_assign rfl) rfl rfl ?_)
 refine Ops_nil ?_
 refine then_n (k1 _ _ ?_)
 clear k1 K1
 refine W_seq_k fun K2 k2 => ?_
 refine W_seq_k fun K3 k3 => ?_
 refine W_region [3, 4] rfl (Ops_step (R_move rfl) rfl rfl ?_)
 refine Ops_call (C_func bd39 rfl) rfl rfl ?_
 refine (journal_Journal_dead_ok (z0 := z0) (z1 := z1) (z2 := z2) hI.st (hg.up hI.le) htd1 htd2 hcd2_1 hsd2_1 hcd2_2 hsd2_2 hcd2_3 hsd2_3 htd0 hcd0_1 hsd0_1 h).mono ?_
 rintro _ w4_ ⟨r4_0, L4_, H4_, rfl, hI4_, h⟩
 refine Exists.elim (hI.call hI4_ (by simp)) fun L40_ h4_ => ?_
 have hz4_ := hI.size
 replace hI := h4_.1
 have u4_ := h4_.2.1
 have hl4_ := h4_.2.2
 clear h4_
 replace hsd0_1 := hsd0_1.up u4_.hh
 replace htd1 := htd1.up u4_.hh u4_ (by simp)
 replace hsd2_1 := hsd2_1.up u4_.hh
 replace hsd2_2 := hsd2_2.up u4_.hh
 replace hsd2_3 := hsd2_3.up u4_.hh
 replace htd2 := htd2.up u4_ (by simp)
 replace htd0 := htd0.up u4_ (by simp)
 clear hI4_ u4_ hl4_
 refine ⟨_, rfl, ?_⟩
 refine Ops_nil ?_
 refine then_n (k3 _ _ ?_)
 clear k3 K3
 refine W_cond rfl (fun hc5_ => ?_) (fun hc5_ => ?_)
 ·
  replace h := h.1 hc5_
  refine W_seq_k fun K6 k6 => ?_
  refine W_region [2] rfl (Ops_step (R_assign rfl) rfl rfl ?_)
  refine Ops_nil ?_
  refine then_n (k6 _ _ ?_)
  clear k6 K6
  refine W_ret ?_
  refine then_ret ?_
  clear k2 K2
  refine ⟨_, ⟨_, _, rfl, rfl, rfl⟩, ?_⟩
  exact ⟨0, _, _, rfl, hI, h⟩
 ·
  replace h := h.2 hc5_
  refine W_skip ?_
  refine then_n (k2 _ _ ?_)
  clear k2 K2
  refine W_seq_k fun K7 k7 => ?_
  refine W_region [5, 6, 7, 8, 9, 10, 2] rfl (Ops_step (R_move rfl) rfl rfl (Ops_step (R_nilCheck rfl) rfl rfl (Ops_step (R_fieldAddr fo46_0 rfl) rfl rfl (Ops_step (R_fieldAddr fo44_0 rfl) rfl rfl ?_))))
  refine Ops_step (R_loadB (v := .slice Ad0_1 z0.book_.l_.length cd0_1) ag41 rfl htd0.blk rfl) rfl rfl ?_
  refine Ops_step (R_len Try.underlying41 rfl rfl) rfl rfl (Ops_step (R_assign rfl) rfl rfl ?_)
  refine Ops_nil ?_
  refine then_n (k7 _ _ ?_)
  clear k7 K7
  refine W_keepB [2] fun B_ b_ => ?_
  simp only [e_, Nat.reduceAdd, Nat.reduceBEq] at b_
  subst b_
  refine W_ret ?_
  refine ⟨_, ⟨_, _, rfl, rfl, rfl⟩, ?_⟩
  exact ⟨(z0.book_.l_.length : Int), _, _, rfl, hI, h⟩

theorem journal_Journal_Bytes_ok {G : Gh} {w : World} (hS : St G w) (hg : GL G) {d0 : Nat} {z0 : journal_Journal} {Ad0_1 : Option Addr} {cd0_1 : Nat} {d1 : Nat} {z1 : List (Int × Int)} (htd1 : MTok G G w d1 z1) {d2 : Nat} {z2 : disk_Disk} {Ad2_1 : Option Addr} {cd2_1 : Nat} {Ad2_2 : Option Addr} {cd2_2 : Nat} {Ad2_3 : Option Addr} {cd2_3 : Nat} (htd2 : Tok G w d2 53 ([.slice Ad2_1 z2.files_.e0_.length cd2_1, .slice Ad2_2 z2.files_.e1_.length cd2_2, .slice Ad2_3 z2.files_.e2_.length cd2_3, vi z2.room_, .bool z2.off_, .bool z2.armed_, vi z2.left_])) (hcd2_1 : z2.files_.e0_.length ≤ cd2_1) (hsd2_1 : Sl G Ad2_1 z2.files_.e0_) (hcd2_2 : z2.files_.e1_.length ≤ cd2_2) (hsd2_2 : Sl G Ad2_2 z2.files_.e1_) (hcd2_3 : z2.files_.e2_.length ≤ cd2_3) (hsd2_3 : Sl G Ad2_3 z2.files_.e2_) (htd0 : Tok G w d0 46 ([.slice Ad0_1 z0.book_.l_.length cd0_1, .map (some d1), .pointer (some ⟨d2, 0, none⟩), vi z0.gen_, vi z0.place_])) (hcd0_1 : z0.book_.l_.length ≤ cd0_1) (hsd0_1 : Sl G Ad0_1 z0.book_.l_) {x1 : Int} {Q : Int → Prop} (h : journal_Journal_Bytes z0 z1 z2 x1 Q) : Calls Try.prog 17 #[.pointer (some ⟨d0, 0, none⟩), vi x1] w fun e w2 => ∃ (r0 : Int) (L H : Gh), e = .returned (vi r0) ∧ Inv [] G w L H w2 ∧ Q r0 := by
 unfold journal_Journal_Bytes at h
 have hI := Inv.start (M := []) hS
 refine calls_W 14 Try.func17 rfl Try.ntmps17 rfl [.tmp 4] rfl ?_
 have hlt_d0 := htd0.blk.lt
 have hlt_d1 := htd1.lt
 have hlt_d2 := htd2.blk.lt
 refine W_seq_k fun K1 k1 => ?_
 refine W_region [4] rfl (Ops_step (R_assign rfl) rfl rfl ?_)
 refine Ops_nil ?_
 refine then_n (k1 _ _ ?_)
 clear k1 K1
 refine W_seq_k fun K2 k2 => ?_
 refine W_seq_k fun K3 k3 => ?_
 refine W_region [5, 6] rfl (Ops_step (R_move rfl) rfl rfl ?_)
 refine Ops_call (C_func bd39 rfl) rfl rfl ?_
 refine (journal_Journal_dead_ok (z0 := z0) (z1 := z1) (z2 := z2) hI.st (hg.up hI.le) htd1 htd2 hcd2_1 hsd2_1 hcd2_2 hsd2_2 hcd2_3 hsd2_3 htd0 hcd0_1 hsd0_1 h).mono ?_
 rintro _ w4_ ⟨r4_0, L4_, H4_, rfl, hI4_, h⟩
 refine Exists.elim (hI.call hI4_ (by simp)) fun L40_ h4_ => ?_
 have hz4_ := hI.size
 replace hI := h4_.1
 have u4_ := h4_.2.1
 have hl4_ := h4_.2.2
 clear h4_
 replace hsd0_1 := hsd0_1.up u4_.hh
 replace htd1 := htd1.up u4_.hh u4_ (by simp)
 replace hsd2_1 := hsd2_1.up u4_.hh
 replace hsd2_2 := hsd2_2.up u4_.hh
 replace hsd2_3 := hsd2_3.up u4_.hh
 replace htd2 := htd2.up u4_ (by simp)
 replace htd0 := htd0.up u4_ (by simp)
 clear hI4_ u4_ hl4_
 refine ⟨_, rfl, ?_⟩
 refine Ops_nil ?_
 refine then_n (k3 _ _ ?_)
 clear k3 K3
 refine W_cond rfl (fun hc5_ => ?_) (fun hc5_ => ?_)
 ·
  replace h := h.1 hc5_
  refine W_seq_k fun K6 k6 => ?_
  refine W_region [4] rfl (Ops_step (R_assign rfl) rfl rfl ?_)
  refine Ops_nil ?_
  refine then_n (k6 _ _ ?_)
  clear k6 K6
  refine W_ret ?_
  refine then_ret ?_
  clear k2 K2
  refine ⟨_, ⟨_, _, rfl, rfl, rfl⟩, ?_⟩
  exact ⟨0, _, _, rfl, hI, h⟩
 ·
  replace h := h.2 hc5_
  refine W_skip ?_
  refine then_n (k2 _ _ ?_)
  clear k2 K2
  refine W_seq_k fun K7 k7 => ?_
  refine W_region [7, 8, 9, 10, 11, 12, 13, 4] rfl (Ops_step (R_move rfl) rfl rfl (Ops_step (R_nilCheck rfl) rfl rfl (Ops_step (R_fieldAddr fo46_0 rfl) rfl rfl (Ops_step (R_fieldAddr fo44_1 rfl) rfl rfl ?_))))
  refine Ops_step (R_loadB (v := .map (some d1)) ag42 rfl htd0.blk rfl) rfl rfl ?_
  refine Ops_step (R_move rfl) rfl rfl ?_
  refine Ops_step (R_lookup (z0 := (0 : Int)) Try.underlying42 Try.underlying3 zv3 rfl rfl htd1) rfl rfl ?_
  refine Ops_step (R_assign rfl) rfl rfl ?_
  refine Ops_nil ?_
  refine then_n (k7 _ _ ?_)
  clear k7 K7
  refine W_keepB [4] fun B_ b_ => ?_
  simp only [e_, Nat.reduceAdd, Nat.reduceBEq] at b_
  subst b_
  refine W_ret ?_
  refine ⟨_, ⟨_, _, rfl, rfl, rfl⟩, ?_⟩
  exact ⟨((mget z1 x1).getD 0), _, _, rfl, hI, h⟩

theorem sealskinlaw06_awake_ok {G : Gh} {w : World} (hS : St G w) (hg : GL G)  {Q : Bool → Prop} (h : sealskinlaw06_awake  Q) : Calls Try.prog 12 #[] w fun e w2 => ∃ (r0 : Bool) (L H : Gh), e = .returned (.bool r0) ∧ Inv [] G w L H w2 ∧ Q r0 := by
 unfold sealskinlaw06_awake at h
 have hI := Inv.start (M := []) hS
 refine calls_W 84 Try.func12 rfl Try.ntmps12 rfl [.tmp 0] rfl ?_
 refine W_seq_k fun K1 k1 => ?_
 refine W_region [0] rfl (Ops_step (R_assign rfl) rfl rfl ?_)
 refine Ops_nil ?_
 refine then_n (k1 _ _ ?_)
 clear k1 K1
 refine W_seq_k fun K2 k2 => ?_
 refine W_region [10, 9, 11, 12, 13, 1, 2, 3] rfl ?_
 refine Ops_call (C_func bd13 rfl) rfl rfl ?_
 refine (sealskinlaw06_begun_ok  hI.st (hg.up hI.le)  h).mono ?_
 rintro _ w3_ ⟨r3_2, o0_3, y3_o0, A3_o0_1, c3_o0_1, A3_o0_2, c3_o0_2, A3_o0_3, c3_o0_3, o1_3, y3_o1, A3_o1_1, c3_o1_1, o2_3, y3_o2, L3_, H3_, rfl, hI3_, hge_o0_3, ht3_o0, hc3_o0_1, hs3_o0_1, hc3_o0_2, hs3_o0_2, hc3_o0_3, hs3_o0_3, hge_o1_3, ht3_o1, hc3_o1_1, hs3_o1_1, hge_o2_3, ht3_o2, h⟩
 have hge0_o0_3 := hge_o0_3
 replace hge_o0_3 := Nat.le_trans hI.size hge_o0_3
 have hge0_o1_3 := hge_o1_3
 replace hge_o1_3 := Nat.le_trans hI.size hge_o1_3
 have hge0_o2_3 := hge_o2_3
 replace hge_o2_3 := Nat.le_trans hI.size hge_o2_3
 refine Exists.elim (hI.call hI3_ (by simp)) fun L30_ h3_ => ?_
 have hz3_ := hI.size
 replace hI := h3_.1
 have u3_ := h3_.2.1
 have hl3_ := h3_.2.2
 clear h3_
 clear hI3_ u3_ hl3_
 refine ⟨_, rfl, ?_⟩
 refine Ops_step (R_move rfl) rfl rfl ?_
 refine Ops_step (R_extract (v := .pointer (some ⟨o0_3, 0, none⟩)) rfl rfl) rfl rfl ?_
 refine Ops_step (R_extract (v := .pointer (some ⟨o1_3, 0, none⟩)) rfl rfl) rfl rfl ?_
 refine Ops_step (R_extract (v := .bool r3_2) rfl rfl) rfl rfl ?_
 refine Ops_step (R_assign rfl) rfl rfl (Ops_step (R_assign rfl) rfl rfl (Ops_step (R_assign rfl) rfl rfl ?_))
 refine Ops_nil ?_
 refine then_n (k2 _ _ ?_)
 clear k2 K2
 refine W_keepB [1, 2, 3] fun B_ b_ => ?_
 simp only [e_, Nat.reduceAdd, Nat.reduceBEq] at b_
 subst b_
 refine W_seq_k fun K5 k5 => ?_
 refine ex_ h fun J6_ hr6_ h => ?_
 refine W_seq_join [1] [41] (fun vals_ w2 => ∃ (x41_6 : Bool) (yo0_3_6 : disk_Disk) (Ao0_3_6_1 : Option Addr) (co0_3_6_1 : Nat) (Ao0_3_6_2 : Option Addr) (co0_3_6_2 : Nat) (Ao0_3_6_3 : Option Addr) (co0_3_6_3 : Nat) (L H : Gh), vals_ = [.bool x41_6] ∧ J6_ x41_6 yo0_3_6 ∧ Inv [] G w L H w2 ∧ Le L30_ L ∧ Le H3_ H ∧ Tok H w2 o0_3 53 ([.slice Ao0_3_6_1 yo0_3_6.files_.e0_.length co0_3_6_1, .slice Ao0_3_6_2 yo0_3_6.files_.e1_.length co0_3_6_2, .slice Ao0_3_6_3 yo0_3_6.files_.e2_.length co0_3_6_3, vi yo0_3_6.room_, .bool yo0_3_6.off_, .bool yo0_3_6.armed_, vi yo0_3_6.left_]) ∧ yo0_3_6.files_.e0_.length ≤ co0_3_6_1 ∧ Sl H Ao0_3_6_1 yo0_3_6.files_.e0_ ∧ yo0_3_6.files_.e1_.length ≤ co0_3_6_2 ∧ Sl H Ao0_3_6_2 yo0_3_6.files_.e1_ ∧ yo0_3_6.files_.e2_.length ≤ co0_3_6_3 ∧ Sl H Ao0_3_6_3 yo0_3_6.files_.e2_ ∧ True) (fun B_ b_ => ?_) (fun B_ b_ => ?_)
 ·
  simp only [e_, Nat.reduceAdd, Nat.reduceBEq] at b_
  subst b_
  clear hr6_
  have hll6_ := Le.refl L30_
  have hhh6_ := Le.refl H3_
  refine W_region [14, 15, 16, 17, 18, 19, 20, 21, 22, 23, 24, 25, 26, 27, 28, 29, 30, 31, 32, 33, 34, 35, 36, 37, 38, 39, 40, 41] rfl (Ops_step (R_move rfl) rfl rfl (Ops_step (R_not rfl) rfl rfl (Ops_step (R_move rfl) rfl rfl ?_)))
  refine Ops_splitB 16 rfl (fun hg7_ => ?_) (fun hg7_ => ?_)
  ·
   replace h := h.1 hg7_
   refine Ops_pass rfl rfl (Ops_pass rfl rfl (Ops_pass rfl rfl (Ops_pass rfl rfl (Ops_pass rfl rfl ?_))))
   refine Ops_step (R_pick_true rfl rfl) rfl rfl (Ops_step (R_move rfl) rfl rfl (Ops_pass rfl rfl (Ops_pass rfl rfl (Ops_pass rfl rfl ?_))))
   refine Ops_pass rfl rfl (Ops_pass rfl rfl (Ops_step (R_pick_true rfl rfl) rfl rfl (Ops_step (R_move rfl) rfl rfl (Ops_pass rfl rfl ?_))))
   refine Ops_pass rfl rfl (Ops_pass rfl rfl (Ops_step (R_pick_true rfl rfl) rfl rfl (Ops_step (R_move rfl) rfl rfl (Ops_pass rfl rfl ?_))))
   refine Ops_pass rfl rfl (Ops_pass rfl rfl (Ops_pass rfl rfl (Ops_pass rfl rfl (Ops_step (R_pick_true rfl rfl) rfl rfl ?_))))
   refine Ops_nil ?_
   refine then_n ?_
   exact ⟨_, rfl, ⟨true, y3_o0, A3_o0_1, c3_o0_1, A3_o0_2, c3_o0_2, A3_o0_3, c3_o0_3, _, _, rfl, h, hI, hll6_, hhh6_, ht3_o0, hc3_o0_1, hs3_o0_1, hc3_o0_2, hs3_o0_2, hc3_o0_3, hs3_o0_3, trivial⟩, ⟨rfl, trivial⟩⟩
  ·
   replace h := h.2 hg7_
   refine Ops_step (R_move rfl) rfl rfl ?_
   refine Ops_to (R_buildSlice el29 zr5 (by decide) (by decide) rfl rfl) rfl rfl ?_
   rintro _ w8_ ⟨b8_, rfl, hb8_, hB8_, hF8_⟩
   have ho8_ : OwnS w.heap.size 5 Gh.no H3_ _ (some ⟨b8_, 0, none⟩) 1 ([(97 : UInt8)] : List UInt8) := OwnS.ofBlk hI.st hb8_ hB8_ (all2_sc' _) rfl (by have := hI.size; omega) (by show 1 ≤ maxLen; decide)
   replace hI := hI.fr0 hF8_
   replace ht3_o0 := ht3_o0.fr0 hF8_
   replace ht3_o1 := ht3_o1.fr0 hF8_
   replace ht3_o2 := ht3_o2.fr0 hF8_
   clear hF8_ hB8_
   refine Ops_to (X_convB (xs := ([(97 : UInt8)] : List UInt8)) Try.underlying29 Try.underlying5 rfl rfl (by show 0 < 1; decide) ho8_) rfl rfl ?_
   rintro _ w9_ ⟨rfl, hR9_, hF9_⟩
   refine Exists.elim (Inv.ownRd ho8_ hI hF9_ hR9_) fun L9_ h9_ => Exists.elim h9_ fun H9_ h9_ => ?_
   replace hI := h9_.1
   have u9_ := h9_.2.1
   have hs9_ := h9_.2.2
   have hc9_ := ho8_.cap
   replace ht3_o0 := ht3_o0.up u9_ (ht3_o0.sep ho8_ (by decide))
   replace hs3_o0_1 := hs3_o0_1.up u9_.hh
   replace hs3_o0_2 := hs3_o0_2.up u9_.hh
   replace hs3_o0_3 := hs3_o0_3.up u9_.hh
   replace ht3_o1 := ht3_o1.up u9_ (ht3_o1.sep ho8_ (by decide))
   replace hs3_o1_1 := hs3_o1_1.up u9_.hh
   replace ht3_o2 := ht3_o2.up u9_.hh u9_ (ht3_o2.neO ho8_)
   replace hll6_ := hll6_.trans u9_.ll
   replace hhh6_ := hhh6_.trans u9_.hh
   clear h9_ u9_ hR9_ hF9_ ho8_
   refine Ops_call (C_func bd15 rfl) rfl rfl ?_
   refine (journal_Journal_Put_ok (x1 := 0) (x2 := ([(97 : UInt8)] : List UInt8)) (z0 := y3_o1) (z1 := y3_o2) (z2 := y3_o0) hI.st (hg.up hI.le) ht3_o2 ht3_o0 hc3_o0_1 hs3_o0_1 hc3_o0_2 hs3_o0_2 hc3_o0_3 hs3_o0_3 ht3_o1 hc3_o1_1 hs3_o1_1 hc9_ (hs9_.up hI.sub) h).mono ?_
   rintro _ w10_ ⟨r10_0, y10_o0, A10_o0_1, c10_o0_1, y10_o1, y10_o2, A10_o2_1, c10_o2_1, A10_o2_2, c10_o2_2, A10_o2_3, c10_o2_3, L10_, H10_, rfl, hI10_, ht10_o0, hc10_o0_1, hs10_o0_1, ht10_o1, ht10_o2, hc10_o2_1, hs10_o2_1, hc10_o2_2, hs10_o2_2, hc10_o2_3, hs10_o2_3, h⟩
   refine Exists.elim (hI.call hI10_ (memG hge_o1_3 (memG hge_o2_3 (memG hge_o0_3 memN)))) fun L100_ h10_ => ?_
   have hz10_ := hI.size
   replace hI := h10_.1
   have u10_ := h10_.2.1
   have hl10_ := h10_.2.2
   clear h10_
   replace hs3_o0_1 := hs3_o0_1.up u10_.hh
   replace hs3_o0_2 := hs3_o0_2.up u10_.hh
   replace hs3_o0_3 := hs3_o0_3.up u10_.hh
   replace hs3_o1_1 := hs3_o1_1.up u10_.hh
   replace hll6_ := hll6_.trans u10_.ll
   replace hhh6_ := hhh6_.trans u10_.hh
   clear ht3_o1
   clear ht3_o2
   clear ht3_o0
   clear hI10_ u10_ hl10_
   refine ⟨_, rfl, ?_⟩
   refine Ops_step (R_neq rfl rfl) rfl rfl (Ops_step (R_pick_false rfl rfl) rfl rfl (Ops_step (R_move rfl) rfl rfl ?_))
   refine Ops_split 23 rfl (fun hg11_ => ?_) (fun hg11_ => ?_)
   ·
    replace h := h.1 hg11_
    refine Ops_pass rfl rfl (Ops_pass rfl rfl (Ops_pass rfl rfl (Ops_pass rfl rfl (Ops_pass rfl rfl ?_))))
    refine Ops_step (R_pick_true rfl rfl) rfl rfl (Ops_step (R_move rfl) rfl rfl (Ops_pass rfl rfl (Ops_pass rfl rfl (Ops_pass rfl rfl ?_))))
    refine Ops_step (R_pick_true rfl rfl) rfl rfl (Ops_step (R_move rfl) rfl rfl (Ops_pass rfl rfl (Ops_pass rfl rfl (Ops_pass rfl rfl ?_))))
    refine Ops_pass rfl rfl (Ops_pass rfl rfl (Ops_step (R_pick_true rfl rfl) rfl rfl ?_))
    refine Ops_nil ?_
    refine then_n ?_
    exact ⟨_, rfl, ⟨true, y10_o2, A10_o2_1, c10_o2_1, A10_o2_2, c10_o2_2, A10_o2_3, c10_o2_3, _, _, rfl, h, hI, hll6_, hhh6_, ht10_o2, hc10_o2_1, hs10_o2_1, hc10_o2_2, hs10_o2_2, hc10_o2_3, hs10_o2_3, trivial⟩, ⟨rfl, trivial⟩⟩
   ·
    replace h := h.2 hg11_
    refine Ops_step (R_move rfl) rfl rfl ?_
    refine Ops_to (R_buildSlice el29 zr5 (by decide) (by decide) rfl rfl) rfl rfl ?_
    rintro _ w12_ ⟨b12_, rfl, hb12_, hB12_, hF12_⟩
    have ho12_ : OwnS w.heap.size 5 Gh.no H10_ _ (some ⟨b12_, 0, none⟩) 2 ([(98 : UInt8), (99 : UInt8)] : List UInt8) := OwnS.ofBlk hI.st hb12_ hB12_ (all2_sc' _) rfl (by have := hI.size; omega) (by show 2 ≤ maxLen; decide)
    replace hI := hI.fr0 hF12_
    replace ht10_o0 := ht10_o0.fr0 hF12_
    replace ht10_o1 := ht10_o1.fr0 hF12_
    replace ht10_o2 := ht10_o2.fr0 hF12_
    clear hF12_ hB12_
    refine Ops_to (X_convB (xs := ([(98 : UInt8), (99 : UInt8)] : List UInt8)) Try.underlying29 Try.underlying5 rfl rfl (by show 0 < 2; decide) ho12_) rfl rfl ?_
    rintro _ w13_ ⟨rfl, hR13_, hF13_⟩
    refine Exists.elim (Inv.ownRd ho12_ hI hF13_ hR13_) fun L13_ h13_ => Exists.elim h13_ fun H13_ h13_ => ?_
    replace hI := h13_.1
    have u13_ := h13_.2.1
    have hs13_ := h13_.2.2
    have hc13_ := ho12_.cap
    replace hll6_ := hll6_.trans u13_.ll
    replace hhh6_ := hhh6_.trans u13_.hh
    replace ht10_o0 := ht10_o0.up u13_ (ht10_o0.sep ho12_ (by decide))
    replace hs10_o0_1 := hs10_o0_1.up u13_.hh
    replace ht10_o1 := ht10_o1.up u13_.hh u13_ (ht10_o1.neO ho12_)
    replace ht10_o2 := ht10_o2.up u13_ (ht10_o2.sep ho12_ (by decide))
    replace hs10_o2_1 := hs10_o2_1.up u13_.hh
    replace hs10_o2_2 := hs10_o2_2.up u13_.hh
    replace hs10_o2_3 := hs10_o2_3.up u13_.hh
    clear h13_ u13_ hR13_ hF13_ ho12_
    refine Ops_call (C_func bd15 rfl) rfl rfl ?_
    refine (journal_Journal_Put_ok (x1 := 3) (x2 := ([(98 : UInt8), (99 : UInt8)] : List UInt8)) (z0 := y10_o0) (z1 := y10_o1) (z2 := y10_o2) hI.st (hg.up hI.le) ht10_o1 ht10_o2 hc10_o2_1 hs10_o2_1 hc10_o2_2 hs10_o2_2 hc10_o2_3 hs10_o2_3 ht10_o0 hc10_o0_1 hs10_o0_1 hc13_ (hs13_.up hI.sub) h).mono ?_
    rintro _ w14_ ⟨r14_0, y14_o0, A14_o0_1, c14_o0_1, y14_o1, y14_o2, A14_o2_1, c14_o2_1, A14_o2_2, c14_o2_2, A14_o2_3, c14_o2_3, L14_, H14_, rfl, hI14_, ht14_o0, hc14_o0_1, hs14_o0_1, ht14_o1, ht14_o2, hc14_o2_1, hs14_o2_1, hc14_o2_2, hs14_o2_2, hc14_o2_3, hs14_o2_3, h⟩
    refine Exists.elim (hI.call hI14_ (memG hge_o1_3 (memG hge_o2_3 (memG hge_o0_3 memN)))) fun L140_ h14_ => ?_
    have hz14_ := hI.size
    replace hI := h14_.1
    have u14_ := h14_.2.1
    have hl14_ := h14_.2.2
    clear h14_
    replace hll6_ := hll6_.trans u14_.ll
    replace hhh6_ := hhh6_.trans u14_.hh
    replace hs10_o0_1 := hs10_o0_1.up u14_.hh
    replace hs10_o2_1 := hs10_o2_1.up u14_.hh
    replace hs10_o2_2 := hs10_o2_2.up u14_.hh
    replace hs10_o2_3 := hs10_o2_3.up u14_.hh
    clear ht10_o0
    clear ht10_o1
    clear ht10_o2
    clear hI14_ u14_ hl14_
    refine ⟨_, rfl, ?_⟩
    refine Ops_step (R_neq rfl rfl) rfl rfl (Ops_step (R_pick_false rfl rfl) rfl rfl (Ops_step (R_move rfl) rfl rfl ?_))
    refine Ops_split 30 rfl (fun hg15_ => ?_) (fun hg15_ => ?_)
    ·
     replace h := h.1 hg15_
     refine Ops_pass rfl rfl (Ops_pass rfl rfl (Ops_pass rfl rfl (Ops_step (R_pick_true rfl rfl) rfl rfl (Ops_step (R_move rfl) rfl rfl ?_))))
     refine Ops_pass rfl rfl (Ops_pass rfl rfl (Ops_pass rfl rfl (Ops_pass rfl rfl (Ops_pass rfl rfl ?_))))
     refine Ops_step (R_pick_true rfl rfl) rfl rfl ?_
     refine Ops_nil ?_
     refine then_n ?_
     exact ⟨_, rfl, ⟨true, y14_o2, A14_o2_1, c14_o2_1, A14_o2_2, c14_o2_2, A14_o2_3, c14_o2_3, _, _, rfl, h, hI, hll6_, hhh6_, ht14_o2, hc14_o2_1, hs14_o2_1, hc14_o2_2, hs14_o2_2, hc14_o2_3, hs14_o2_3, trivial⟩, ⟨rfl, trivial⟩⟩
    ·
     replace h := h.2 hg15_
     refine Ops_step (R_move rfl) rfl rfl ?_
     refine Ops_call (C_func bd21 rfl) rfl rfl ?_
     refine (disk_Disk_Arm_ok (x1 := 5) (z0 := y14_o2) hI.st (hg.up hI.le) ht14_o2 hc14_o2_1 hs14_o2_1 hc14_o2_2 hs14_o2_2 hc14_o2_3 hs14_o2_3 h).mono ?_
     rintro _ w16_ ⟨r16_0, y16_o0, A16_o0_1, c16_o0_1, A16_o0_2, c16_o0_2, A16_o0_3, c16_o0_3, L16_, H16_, rfl, hI16_, ht16_o0, hc16_o0_1, hs16_o0_1, hc16_o0_2, hs16_o0_2, hc16_o0_3, hs16_o0_3, h⟩
     refine Exists.elim (hI.call hI16_ (new1 hge_o0_3)) fun L160_ h16_ => ?_
     have hz16_ := hI.size
     replace hI := h16_.1
     have u16_ := h16_.2.1
     have hl16_ := h16_.2.2
     clear h16_
     replace hll6_ := hll6_.trans u16_.ll
     replace hhh6_ := hhh6_.trans u16_.hh
     replace ht14_o0 := ht14_o0.up u16_ (ht14_o0.apart ht14_o2 (by decide))
     replace hs14_o0_1 := hs14_o0_1.up u16_.hh
     replace ht14_o1 := ht14_o1.up u16_.hh u16_ (ht14_o1.neT ht14_o2)
     replace hs14_o2_1 := hs14_o2_1.up u16_.hh
     replace hs14_o2_2 := hs14_o2_2.up u16_.hh
     replace hs14_o2_3 := hs14_o2_3.up u16_.hh
     clear ht14_o2
     clear hI16_ u16_ hl16_
     refine ⟨_, rfl, ?_⟩
     refine Ops_step (R_neq rfl rfl) rfl rfl (Ops_step (R_pick_false rfl rfl) rfl rfl (Ops_step (R_move rfl) rfl rfl ?_))
     refine Ops_split 35 rfl (fun hg17_ => ?_) (fun hg17_ => ?_)
     ·
      replace h := h.1 hg17_
      refine Ops_pass rfl rfl (Ops_pass rfl rfl (Ops_pass rfl rfl (Ops_pass rfl rfl (Ops_pass rfl rfl ?_))))
      refine Ops_step (R_pick_true rfl rfl) rfl rfl ?_
      refine Ops_nil ?_
      refine then_n ?_
      exact ⟨_, rfl, ⟨true, y16_o0, A16_o0_1, c16_o0_1, A16_o0_2, c16_o0_2, A16_o0_3, c16_o0_3, _, _, rfl, h, hI, hll6_, hhh6_, ht16_o0, hc16_o0_1, hs16_o0_1, hc16_o0_2, hs16_o0_2, hc16_o0_3, hs16_o0_3, trivial⟩, ⟨rfl, trivial⟩⟩
     ·
      replace h := h.2 hg17_
      refine Ops_step (R_move rfl) rfl rfl ?_
      refine Ops_to (R_buildSlice el29 zr5 (by decide) (by decide) rfl rfl) rfl rfl ?_
      rintro _ w18_ ⟨b18_, rfl, hb18_, hB18_, hF18_⟩
      have ho18_ : OwnS w.heap.size 5 Gh.no H16_ _ (some ⟨b18_, 0, none⟩) 1 ([(100 : UInt8)] : List UInt8) := OwnS.ofBlk hI.st hb18_ hB18_ (all2_sc' _) rfl (by have := hI.size; omega) (by show 1 ≤ maxLen; decide)
      replace hI := hI.fr0 hF18_
      replace ht14_o0 := ht14_o0.fr0 hF18_
      replace ht14_o1 := ht14_o1.fr0 hF18_
      replace ht16_o0 := ht16_o0.fr0 hF18_
      clear hF18_ hB18_
      refine Ops_to (X_convB (xs := ([(100 : UInt8)] : List UInt8)) Try.underlying29 Try.underlying5 rfl rfl (by show 0 < 1; decide) ho18_) rfl rfl ?_
      rintro _ w19_ ⟨rfl, hR19_, hF19_⟩
      refine Exists.elim (Inv.ownRd ho18_ hI hF19_ hR19_) fun L19_ h19_ => Exists.elim h19_ fun H19_ h19_ => ?_
      replace hI := h19_.1
      have u19_ := h19_.2.1
      have hs19_ := h19_.2.2
      have hc19_ := ho18_.cap
      replace hll6_ := hll6_.trans u19_.ll
      replace hhh6_ := hhh6_.trans u19_.hh
      replace ht14_o0 := ht14_o0.up u19_ (ht14_o0.sep ho18_ (by decide))
      replace hs14_o0_1 := hs14_o0_1.up u19_.hh
      replace ht14_o1 := ht14_o1.up u19_.hh u19_ (ht14_o1.neO ho18_)
      replace ht16_o0 := ht16_o0.up u19_ (ht16_o0.sep ho18_ (by decide))
      replace hs16_o0_1 := hs16_o0_1.up u19_.hh
      replace hs16_o0_2 := hs16_o0_2.up u19_.hh
      replace hs16_o0_3 := hs16_o0_3.up u19_.hh
      clear h19_ u19_ hR19_ hF19_ ho18_
      refine Ops_call (C_func bd15 rfl) rfl rfl ?_
      refine (journal_Journal_Put_ok (x1 := 0) (x2 := ([(100 : UInt8)] : List UInt8)) (z0 := y14_o0) (z1 := y14_o1) (z2 := y16_o0) hI.st (hg.up hI.le) ht14_o1 ht16_o0 hc16_o0_1 hs16_o0_1 hc16_o0_2 hs16_o0_2 hc16_o0_3 hs16_o0_3 ht14_o0 hc14_o0_1 hs14_o0_1 hc19_ (hs19_.up hI.sub) h).mono ?_
      rintro _ w20_ ⟨r20_0, y20_o0, A20_o0_1, c20_o0_1, y20_o1, y20_o2, A20_o2_1, c20_o2_1, A20_o2_2, c20_o2_2, A20_o2_3, c20_o2_3, L20_, H20_, rfl, hI20_, ht20_o0, hc20_o0_1, hs20_o0_1, ht20_o1, ht20_o2, hc20_o2_1, hs20_o2_1, hc20_o2_2, hs20_o2_2, hc20_o2_3, hs20_o2_3, h⟩
      refine Exists.elim (hI.call hI20_ (memG hge_o1_3 (memG hge_o2_3 (memG hge_o0_3 memN)))) fun L200_ h20_ => ?_
      have hz20_ := hI.size
      replace hI := h20_.1
      have u20_ := h20_.2.1
      have hl20_ := h20_.2.2
      clear h20_
      replace hll6_ := hll6_.trans u20_.ll
      replace hhh6_ := hhh6_.trans u20_.hh
      replace hs14_o0_1 := hs14_o0_1.up u20_.hh
      replace hs16_o0_1 := hs16_o0_1.up u20_.hh
      replace hs16_o0_2 := hs16_o0_2.up u20_.hh
      replace hs16_o0_3 := hs16_o0_3.up u20_.hh
      clear ht14_o0
      clear ht14_o1
      clear ht16_o0
      clear hI20_ u20_ hl20_
      refine ⟨_, rfl, ?_⟩
      refine Ops_step (R_neq rfl rfl) rfl rfl (Ops_step (R_pick_false rfl rfl) rfl rfl ?_)
      refine Ops_nil ?_
      refine then_n ?_
      exact ⟨_, rfl, ⟨(decide (r20_0 ≠ 50)), y20_o2, A20_o2_1, c20_o2_1, A20_o2_2, c20_o2_2, A20_o2_3, c20_o2_3, _, _, rfl, h, hI, hll6_, hhh6_, ht20_o2, hc20_o2_1, hs20_o2_1, hc20_o2_2, hs20_o2_2, hc20_o2_3, hs20_o2_3, trivial⟩, ⟨rfl, trivial⟩⟩
 ·
  simp only [e_, Nat.reduceAdd, Nat.reduceBEq] at b_
  subst b_
  clear h
  rintro _ w6_ ⟨x41_6, yo0_3_6, Ao0_3_6_1, co0_3_6_1, Ao0_3_6_2, co0_3_6_2, Ao0_3_6_3, co0_3_6_3, L6_, H6_, rfl, hJ6_, hI6_, hll6_, hhh6_, hto0_3_6, hco0_3_6_1, hso0_3_6_1, hco0_3_6_2, hso0_3_6_2, hco0_3_6_3, hso0_3_6_3, -⟩
  replace hI := hI6_
  clear hI6_
  have h := hr6_ x41_6 yo0_3_6 hJ6_
  clear hr6_ hJ6_
  refine W_cond rfl (fun hc21_ => ?_) (fun hc21_ => ?_)
  ·
   replace h := h.1 hc21_
   refine W_seq_k fun K22 k22 => ?_
   refine W_region [0] rfl (Ops_step (R_assign rfl) rfl rfl ?_)
   refine Ops_nil ?_
   refine then_n (k22 _ _ ?_)
   clear k22 K22
   refine W_ret ?_
   refine then_ret ?_
   clear k5 K5
   refine ⟨_, ⟨_, _, rfl, rfl, rfl⟩, ?_⟩
   exact ⟨false, _, _, rfl, hI, h⟩
  ·
   replace h := h.2 hc21_
   refine W_skip ?_
   refine then_n (k5 _ _ ?_)
   clear k5 K5
   refine W_seq_k fun K23 k23 => ?_
   refine W_region [42, 43] rfl (Ops_step (R_move rfl) rfl rfl ?_)
   refine Ops_call (C_func bd22 rfl) rfl rfl ?_
   refine (disk_Disk_Start_ok (z0 := yo0_3_6) hI.st (hg.up hI.le) hto0_3_6 hco0_3_6_1 hso0_3_6_1 hco0_3_6_2 hso0_3_6_2 hco0_3_6_3 hso0_3_6_3 h).mono ?_
   rintro _ w24_ ⟨r24_0, y24_o0, A24_o0_1, c24_o0_1, A24_o0_2, c24_o0_2, A24_o0_3, c24_o0_3, L24_, H24_, rfl, hI24_, ht24_o0, hc24_o0_1, hs24_o0_1, hc24_o0_2, hs24_o0_2, hc24_o0_3, hs24_o0_3, h⟩
   refine Exists.elim (hI.call hI24_ (new1 hge_o0_3)) fun L240_ h24_ => ?_
   have hz24_ := hI.size
   replace hI := h24_.1
   have u24_ := h24_.2.1
   have hl24_ := h24_.2.2
   clear h24_
   replace hso0_3_6_1 := hso0_3_6_1.up u24_.hh
   replace hso0_3_6_2 := hso0_3_6_2.up u24_.hh
   replace hso0_3_6_3 := hso0_3_6_3.up u24_.hh
   clear hto0_3_6
   clear hI24_ u24_ hl24_
   refine ⟨_, rfl, ?_⟩
   refine Ops_nil ?_
   refine then_n (k23 _ _ ?_)
   clear k23 K23
   refine W_seq_k fun K25 k25 => ?_
   refine W_region [45, 46, 44, 47, 48, 4, 5] rfl (Ops_step (R_move rfl) rfl rfl ?_)
   refine Ops_call (C_func bd20 rfl) rfl rfl ?_
   refine (journal_Open_ok (z0 := y24_o0) hI.st (hg.up hI.le) ht24_o0 hc24_o0_1 hs24_o0_1 hc24_o0_2 hs24_o0_2 hc24_o0_3 hs24_o0_3 h).mono ?_
   rintro _ w26_ (⟨r26a_1, y26a_o0, A26a_o0_1, c26a_o0_1, A26a_o0_2, c26a_o0_2, A26a_o0_3, c26a_o0_3, L26a_, H26a_, rfl, hI26a_, ht26a_o0, hc26a_o0_1, hs26a_o0_1, hc26a_o0_2, hs26a_o0_2, hc26a_o0_3, hs26a_o0_3, h⟩ | ⟨r26b_1, y26b_o0, A26b_o0_1, c26b_o0_1, A26b_o0_2, c26b_o0_2, A26b_o0_3, c26b_o0_3, o1_26b, y26b_o1, A26b_o1_1, c26b_o1_1, o2_26b, y26b_o2, L26b_, H26b_, rfl, hI26b_, ht26b_o0, hc26b_o0_1, hs26b_o0_1, hc26b_o0_2, hs26b_o0_2, hc26b_o0_3, hs26b_o0_3, hge_o1_26b, ht26b_o1, hc26b_o1_1, hs26b_o1_1, hge_o2_26b, ht26b_o2, h⟩)
   ·
    exact h.elim
   ·
    have hge0_o1_26b := hge_o1_26b
    replace hge_o1_26b := Nat.le_trans hI.size hge_o1_26b
    have hge0_o2_26b := hge_o2_26b
    replace hge_o2_26b := Nat.le_trans hI.size hge_o2_26b
    refine Exists.elim (hI.call hI26b_ (new1 hge_o0_3)) fun L26b0_ h26b_ => ?_
    have hz26b_ := hI.size
    replace hI := h26b_.1
    have u26b_ := h26b_.2.1
    have hl26b_ := h26b_.2.2
    clear h26b_
    replace hs24_o0_1 := hs24_o0_1.up u26b_.hh
    replace hs24_o0_2 := hs24_o0_2.up u26b_.hh
    replace hs24_o0_3 := hs24_o0_3.up u26b_.hh
    clear ht24_o0
    clear hI26b_ u26b_ hl26b_
    refine ⟨_, rfl, ?_⟩
    refine Ops_step (R_move rfl) rfl rfl ?_
    refine Ops_step (R_extract (v := .pointer (some ⟨o1_26b, 0, none⟩)) rfl rfl) rfl rfl ?_
    refine Ops_step (R_extract (v := vi r26b_1) rfl rfl) rfl rfl ?_
    refine Ops_step (R_assign rfl) rfl rfl (Ops_step (R_assign rfl) rfl rfl ?_)
    refine Ops_nil ?_
    refine then_n (k25 _ _ ?_)
    clear k25 K25
    refine W_keepB [4, 5] fun B_ b_ => ?_
    simp only [e_, Nat.reduceAdd, Nat.reduceBEq] at b_
    subst b_
    refine W_seq_k fun K28 k28 => ?_
    refine W_region [50, 51, 49, 52, 53, 54, 6, 7, 8] rfl (Ops_step (R_move rfl) rfl rfl ?_)
    refine Ops_call (C_func bd18 rfl) rfl rfl ?_
    refine (journal_Journal_At_ok (x1 := 1) (z0 := y26b_o1) (z1 := y26b_o2) (z2 := y26b_o0) hI.st (hg.up hI.le) ht26b_o2 ht26b_o0 hc26b_o0_1 hs26b_o0_1 hc26b_o0_2 hs26b_o0_2 hc26b_o0_3 hs26b_o0_3 ht26b_o1 hc26b_o1_1 hs26b_o1_1 h).mono ?_
    rintro _ w29_ ⟨r29_0, A29_1, c29_1, r29_1, r29_2, L29_, H29_, rfl, hI29_, ho29_1, h⟩
    refine Exists.elim (hI.call hI29_ (by simp)) fun L290_ h29_ => ?_
    have hz29_ := hI.size
    replace hI := h29_.1
    have u29_ := h29_.2.1
    have hl29_ := h29_.2.2
    clear h29_
    replace ht26b_o0 := ht26b_o0.up u29_ (by simp)
    replace hs26b_o0_1 := hs26b_o0_1.up u29_.hh
    replace hs26b_o0_2 := hs26b_o0_2.up u29_.hh
    replace hs26b_o0_3 := hs26b_o0_3.up u29_.hh
    replace ht26b_o1 := ht26b_o1.up u29_ (by simp)
    replace hs26b_o1_1 := hs26b_o1_1.up u29_.hh
    replace ht26b_o2 := ht26b_o2.up u29_.hh u29_ (by simp)
    replace ho29_1 := OwnS.backS ho29_1 hz29_ (Le.refl _)
    clear hI29_ u29_ hl29_
    refine ⟨_, rfl, ?_⟩
    refine Exists.elim (ho29_1.freeze hI) fun L30_ h30_ => Exists.elim h30_ fun H30_ h30_ => ?_
    replace hI := h30_.1
    have u30_ := h30_.2.1
    have hs30_ := h30_.2.2.1 (Le.no _)
    have hc30_ := ho29_1.cap
    replace ht26b_o0 := ht26b_o0.up u30_ (ht26b_o0.sep ho29_1 (by decide))
    replace hs26b_o0_1 := hs26b_o0_1.up u30_.hh
    replace hs26b_o0_2 := hs26b_o0_2.up u30_.hh
    replace hs26b_o0_3 := hs26b_o0_3.up u30_.hh
    replace ht26b_o1 := ht26b_o1.up u30_ (ht26b_o1.sep ho29_1 (by decide))
    replace hs26b_o1_1 := hs26b_o1_1.up u30_.hh
    replace ht26b_o2 := ht26b_o2.up u30_.hh u30_ (ht26b_o2.neO ho29_1)
    clear h30_ u30_ ho29_1
    refine Ops_step (R_move rfl) rfl rfl ?_
    refine Ops_step (R_extract (v := vi r29_0) rfl rfl) rfl rfl ?_
    refine Ops_step (R_extract (v := .slice A29_1 r29_1.length c29_1) rfl rfl) rfl rfl ?_
    refine Ops_step (R_extract (v := .bool r29_2) rfl rfl) rfl rfl ?_
    refine Ops_step (R_assign rfl) rfl rfl (Ops_step (R_assign rfl) rfl rfl (Ops_step (R_assign rfl) rfl rfl ?_))
    refine Ops_nil ?_
    refine then_n (k28 _ _ ?_)
    clear k28 K28
    refine W_keepB [4, 5, 6, 7, 8] fun B_ b_ => ?_
    simp only [e_, Nat.reduceAdd, Nat.reduceBEq] at b_
    subst b_
    refine W_seq_k fun K32 k32 => ?_
    refine W_region [55, 56, 57, 58, 59, 60, 61, 62, 63, 64, 65, 66, 67, 68, 69, 70, 71, 72, 73, 74, 75, 76, 77, 78, 79, 80, 81, 82, 83, 0] rfl (Ops_step (R_move rfl) rfl rfl (Ops_step (R_eql rfl rfl) rfl rfl (Ops_step (R_move rfl) rfl rfl ?_)))
    refine Ops_split 57 rfl (fun hg33_ => ?_) (fun hg33_ => ?_)
    ·
     replace h := h.1 hg33_
     refine Ops_step (R_move rfl) rfl rfl ?_
     refine Ops_call (C_func bd19 rfl) rfl rfl ?_
     refine (journal_Journal_Len_ok (z0 := y26b_o1) (z1 := y26b_o2) (z2 := y26b_o0) hI.st (hg.up hI.le) ht26b_o2 ht26b_o0 hc26b_o0_1 hs26b_o0_1 hc26b_o0_2 hs26b_o0_2 hc26b_o0_3 hs26b_o0_3 ht26b_o1 hc26b_o1_1 hs26b_o1_1 h).mono ?_
     rintro _ w34_ ⟨r34_0, L34_, H34_, rfl, hI34_, h⟩
     refine Exists.elim (hI.call hI34_ (by simp)) fun L340_ h34_ => ?_
     have hz34_ := hI.size
     replace hI := h34_.1
     have u34_ := h34_.2.1
     have hl34_ := h34_.2.2
     clear h34_
     replace ht26b_o0 := ht26b_o0.up u34_ (by simp)
     replace hs26b_o0_1 := hs26b_o0_1.up u34_.hh
     replace hs26b_o0_2 := hs26b_o0_2.up u34_.hh
     replace hs26b_o0_3 := hs26b_o0_3.up u34_.hh
     replace ht26b_o1 := ht26b_o1.up u34_ (by simp)
     replace hs26b_o1_1 := hs26b_o1_1.up u34_.hh
     replace ht26b_o2 := ht26b_o2.up u34_.hh u34_ (by simp)
     replace hs30_ := hs30_.up u34_.ll
     clear hI34_ u34_ hl34_
     refine ⟨_, rfl, ?_⟩
     refine Ops_step (R_eql rfl rfl) rfl rfl (Ops_step (R_pick_true rfl rfl) rfl rfl (Ops_step (R_move rfl) rfl rfl ?_))
     refine Ops_split 62 rfl (fun hg35_ => ?_) (fun hg35_ => ?_)
     ·
      replace h := h.1 hg35_
      refine Ops_step (R_move rfl) rfl rfl ?_
      refine Ops_call (C_func bd17 rfl) rfl rfl ?_
      refine (journal_Journal_Bytes_ok (x1 := 3) (z0 := y26b_o1) (z1 := y26b_o2) (z2 := y26b_o0) hI.st (hg.up hI.le) ht26b_o2 ht26b_o0 hc26b_o0_1 hs26b_o0_1 hc26b_o0_2 hs26b_o0_2 hc26b_o0_3 hs26b_o0_3 ht26b_o1 hc26b_o1_1 hs26b_o1_1 h).mono ?_
      rintro _ w36_ ⟨r36_0, L36_, H36_, rfl, hI36_, h⟩
      refine Exists.elim (hI.call hI36_ (by simp)) fun L360_ h36_ => ?_
      have hz36_ := hI.size
      replace hI := h36_.1
      have u36_ := h36_.2.1
      have hl36_ := h36_.2.2
      clear h36_
      replace ht26b_o0 := ht26b_o0.up u36_ (by simp)
      replace hs26b_o0_1 := hs26b_o0_1.up u36_.hh
      replace hs26b_o0_2 := hs26b_o0_2.up u36_.hh
      replace hs26b_o0_3 := hs26b_o0_3.up u36_.hh
      replace ht26b_o1 := ht26b_o1.up u36_ (by simp)
      replace hs26b_o1_1 := hs26b_o1_1.up u36_.hh
      replace ht26b_o2 := ht26b_o2.up u36_.hh u36_ (by simp)
      replace hs30_ := hs30_.up u36_.ll
      clear hI36_ u36_ hl36_
      refine ⟨_, rfl, ?_⟩
      refine Ops_step (R_eql rfl rfl) rfl rfl (Ops_step (R_pick_true rfl rfl) rfl rfl (Ops_step (R_move rfl) rfl rfl ?_))
      refine Ops_split 67 rfl (fun hg37_ => ?_) (fun hg37_ => ?_)
      ·
       replace h := h.1 hg37_
       refine Ops_step (R_move rfl) rfl rfl (Ops_step (R_eql rfl rfl) rfl rfl (Ops_step (R_pick_true rfl rfl) rfl rfl (Ops_step (R_move rfl) rfl rfl ?_)))
       refine Ops_split 71 rfl (fun hg38_ => ?_) (fun hg38_ => ?_)
       ·
        replace h := h.1 hg38_
        refine Ops_step (R_move rfl) rfl rfl ?_
        refine Ops_step (X_bytesStr (bs := r29_1) Try.underlying29 Try.underlying5 Try.underlying9 rfl rfl ((hs30_.up hI.sub).fz.rd hI.st)) rfl rfl ?_
        refine Ops_step (R_strEqB rfl rfl) rfl rfl (Ops_step (R_pick_true rfl rfl) rfl rfl (Ops_step (R_move rfl) rfl rfl ?_))
        refine Ops_split 76 rfl (fun hg39_ => ?_) (fun hg39_ => ?_)
        ·
         replace h := h.1 hg39_
         refine Ops_step (R_move rfl) rfl rfl (Ops_step (R_pick_true rfl rfl) rfl rfl (Ops_step (R_move rfl) rfl rfl ?_))
         refine Ops_splitB 79 rfl (fun hg40_ => ?_) (fun hg40_ => ?_)
         ·
          replace h := h.1 hg40_
          refine Ops_step (R_move rfl) rfl rfl ?_
          refine Ops_call (C_func bd15 rfl) rfl rfl ?_
          refine (journal_Journal_Put_ok (x1 := 32) (x2 := []) (z0 := y26b_o1) (z1 := y26b_o2) (z2 := y26b_o0) hI.st (hg.up hI.le) ht26b_o2 ht26b_o0 hc26b_o0_1 hs26b_o0_1 hc26b_o0_2 hs26b_o0_2 hc26b_o0_3 hs26b_o0_3 ht26b_o1 hc26b_o1_1 hs26b_o1_1 (Nat.le_refl 0) Sl.nil h).mono ?_
          rintro _ w41_ ⟨r41_0, y41_o0, A41_o0_1, c41_o0_1, y41_o1, y41_o2, A41_o2_1, c41_o2_1, A41_o2_2, c41_o2_2, A41_o2_3, c41_o2_3, L41_, H41_, rfl, hI41_, ht41_o0, hc41_o0_1, hs41_o0_1, ht41_o1, ht41_o2, hc41_o2_1, hs41_o2_1, hc41_o2_2, hs41_o2_2, hc41_o2_3, hs41_o2_3, h⟩
          refine Exists.elim (hI.call hI41_ (memG hge_o1_26b (memG hge_o2_26b (memG hge_o0_3 memN)))) fun L410_ h41_ => ?_
          have hz41_ := hI.size
          replace hI := h41_.1
          have u41_ := h41_.2.1
          have hl41_ := h41_.2.2
          clear h41_
          replace hs26b_o0_1 := hs26b_o0_1.up u41_.hh
          replace hs26b_o0_2 := hs26b_o0_2.up u41_.hh
          replace hs26b_o0_3 := hs26b_o0_3.up u41_.hh
          replace hs26b_o1_1 := hs26b_o1_1.up u41_.hh
          clear ht26b_o1
          clear ht26b_o2
          clear ht26b_o0
          clear hI41_ u41_ hl41_
          refine ⟨_, rfl, ?_⟩
          refine Ops_step (R_eql rfl rfl) rfl rfl (Ops_step (R_pick_true rfl rfl) rfl rfl (Ops_step (R_assign rfl) rfl rfl ?_))
          refine Ops_nil ?_
          refine then_n (k32 _ _ ?_)
          clear k32 K32
          refine W_keepB [0] fun B_ b_ => ?_
          simp only [e_, Nat.reduceAdd, Nat.reduceBEq] at b_
          subst b_
          refine W_ret ?_
          refine ⟨_, ⟨_, _, rfl, rfl, rfl⟩, ?_⟩
          exact ⟨(decide (r41_0 = 10)), _, _, rfl, hI, h⟩
         ·
          replace h := h.2 hg40_
          refine Ops_pass rfl rfl (Ops_pass rfl rfl (Ops_pass rfl rfl (Ops_step (R_pick_false rfl rfl) rfl rfl (Ops_step (R_assign rfl) rfl rfl ?_))))
          refine Ops_nil ?_
          refine then_n (k32 _ _ ?_)
          clear k32 K32
          refine W_keepB [0] fun B_ b_ => ?_
          simp only [e_, Nat.reduceAdd, Nat.reduceBEq] at b_
          subst b_
          refine W_ret ?_
          refine ⟨_, ⟨_, _, rfl, rfl, rfl⟩, ?_⟩
          exact ⟨false, _, _, rfl, hI, h⟩
        ·
         replace h := h.2 hg39_
         refine Ops_pass rfl rfl (Ops_step (R_pick_false rfl rfl) rfl rfl (Ops_step (R_move rfl) rfl rfl (Ops_pass rfl rfl (Ops_pass rfl rfl ?_))))
         refine Ops_pass rfl rfl (Ops_step (R_pick_false rfl rfl) rfl rfl (Ops_step (R_assign rfl) rfl rfl ?_))
         refine Ops_nil ?_
         refine then_n (k32 _ _ ?_)
         clear k32 K32
         refine W_keepB [0] fun B_ b_ => ?_
         simp only [e_, Nat.reduceAdd, Nat.reduceBEq] at b_
         subst b_
         refine W_ret ?_
         refine ⟨_, ⟨_, _, rfl, rfl, rfl⟩, ?_⟩
         exact ⟨false, _, _, rfl, hI, h⟩
       ·
        replace h := h.2 hg38_
        refine Ops_pass rfl rfl (Ops_pass rfl rfl (Ops_pass rfl rfl (Ops_step (R_pick_false rfl rfl) rfl rfl (Ops_step (R_move rfl) rfl rfl ?_))))
        refine Ops_pass rfl rfl (Ops_step (R_pick_false rfl rfl) rfl rfl (Ops_step (R_move rfl) rfl rfl (Ops_pass rfl rfl (Ops_pass rfl rfl ?_))))
        refine Ops_pass rfl rfl (Ops_step (R_pick_false rfl rfl) rfl rfl (Ops_step (R_assign rfl) rfl rfl ?_))
        refine Ops_nil ?_
        refine then_n (k32 _ _ ?_)
        clear k32 K32
        refine W_keepB [0] fun B_ b_ => ?_
        simp only [e_, Nat.reduceAdd, Nat.reduceBEq] at b_
        subst b_
        refine W_ret ?_
        refine ⟨_, ⟨_, _, rfl, rfl, rfl⟩, ?_⟩
        exact ⟨false, _, _, rfl, hI, h⟩
      ·
       replace h := h.2 hg37_
       refine Ops_pass rfl rfl (Ops_pass rfl rfl (Ops_step (R_pick_false rfl rfl) rfl rfl (Ops_step (R_move rfl) rfl rfl (Ops_pass rfl rfl ?_))))
       refine Ops_pass rfl rfl (Ops_pass rfl rfl (Ops_step (R_pick_false rfl rfl) rfl rfl (Ops_step (R_move rfl) rfl rfl (Ops_pass rfl rfl ?_))))
       refine Ops_step (R_pick_false rfl rfl) rfl rfl (Ops_step (R_move rfl) rfl rfl (Ops_pass rfl rfl (Ops_pass rfl rfl (Ops_pass rfl rfl ?_))))
       refine Ops_step (R_pick_false rfl rfl) rfl rfl (Ops_step (R_assign rfl) rfl rfl ?_)
       refine Ops_nil ?_
       refine then_n (k32 _ _ ?_)
       clear k32 K32
       refine W_keepB [0] fun B_ b_ => ?_
       simp only [e_, Nat.reduceAdd, Nat.reduceBEq] at b_
       subst b_
       refine W_ret ?_
       refine ⟨_, ⟨_, _, rfl, rfl, rfl⟩, ?_⟩
       exact ⟨false, _, _, rfl, hI, h⟩
     ·
      replace h := h.2 hg35_
      refine Ops_pass rfl rfl (Ops_pass rfl rfl (Ops_pass rfl rfl (Ops_step (R_pick_false rfl rfl) rfl rfl (Ops_step (R_move rfl) rfl rfl ?_))))
      refine Ops_pass rfl rfl (Ops_pass rfl rfl (Ops_step (R_pick_false rfl rfl) rfl rfl (Ops_step (R_move rfl) rfl rfl (Ops_pass rfl rfl ?_))))
      refine Ops_pass rfl rfl (Ops_pass rfl rfl (Ops_step (R_pick_false rfl rfl) rfl rfl (Ops_step (R_move rfl) rfl rfl (Ops_pass rfl rfl ?_))))
      refine Ops_step (R_pick_false rfl rfl) rfl rfl (Ops_step (R_move rfl) rfl rfl (Ops_pass rfl rfl (Ops_pass rfl rfl (Ops_pass rfl rfl ?_))))
      refine Ops_step (R_pick_false rfl rfl) rfl rfl (Ops_step (R_assign rfl) rfl rfl ?_)
      refine Ops_nil ?_
      refine then_n (k32 _ _ ?_)
      clear k32 K32
      refine W_keepB [0] fun B_ b_ => ?_
      simp only [e_, Nat.reduceAdd, Nat.reduceBEq] at b_
      subst b_
      refine W_ret ?_
      refine ⟨_, ⟨_, _, rfl, rfl, rfl⟩, ?_⟩
      exact ⟨false, _, _, rfl, hI, h⟩
    ·
     replace h := h.2 hg33_
     refine Ops_pass rfl rfl (Ops_pass rfl rfl (Ops_pass rfl rfl (Ops_step (R_pick_false rfl rfl) rfl rfl (Ops_step (R_move rfl) rfl rfl ?_))))
     refine Ops_pass rfl rfl (Ops_pass rfl rfl (Ops_pass rfl rfl (Ops_step (R_pick_false rfl rfl) rfl rfl (Ops_step (R_move rfl) rfl rfl ?_))))
     refine Ops_pass rfl rfl (Ops_pass rfl rfl (Ops_step (R_pick_false rfl rfl) rfl rfl (Ops_step (R_move rfl) rfl rfl (Ops_pass rfl rfl ?_))))
     refine Ops_pass rfl rfl (Ops_pass rfl rfl (Ops_step (R_pick_false rfl rfl) rfl rfl (Ops_step (R_move rfl) rfl rfl (Ops_pass rfl rfl ?_))))
     refine Ops_step (R_pick_false rfl rfl) rfl rfl (Ops_step (R_move rfl) rfl rfl (Ops_pass rfl rfl (Ops_pass rfl rfl (Ops_pass rfl rfl ?_))))
     refine Ops_step (R_pick_false rfl rfl) rfl rfl (Ops_step (R_assign rfl) rfl rfl ?_)
     refine Ops_nil ?_
     refine then_n (k32 _ _ ?_)
     clear k32 K32
     refine W_keepB [0] fun B_ b_ => ?_
     simp only [e_, Nat.reduceAdd, Nat.reduceBEq] at b_
     subst b_
     refine W_ret ?_
     refine ⟨_, ⟨_, _, rfl, rfl, rfl⟩, ?_⟩
     exact ⟨false, _, _, rfl, hI, h⟩

end Go.Proofs.Ytkmljjhjojolcaa

