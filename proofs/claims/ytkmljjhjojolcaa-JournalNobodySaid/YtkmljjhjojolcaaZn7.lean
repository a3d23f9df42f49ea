/- What is shown of the program on the way to the law. -/
import Derived.Test.YtkmljjhjojolcaaZn3
import Derived.Test.YtkmljjhjojolcaaZn4
import Derived.Test.YtkmljjhjojolcaaZn5
import Derived.Test.YtkmljjhjojolcaaProg
set_option linter.unusedVariables false
set_option linter.unusedSimpArgs false
set_option maxHeartbeats 4000000
namespace Go.Proofs.Ytkmljjhjojolcaa
open Go Go.Sx Go.Lx
namespace TJtC
theorem hm : Try.prog.follows .mixedOrders = true := by kernel_rfl
theorem ag25 : aggB Try.prog 25 = some false := by kernel_rfl
theorem ag29 : aggB Try.prog 29 = some false := by kernel_rfl
theorem ag3 : aggB Try.prog 3 = some false := by kernel_rfl
theorem ag4 : aggB Try.prog 4 = some false := by kernel_rfl
theorem ag51 : aggB Try.prog 51 = some true := by kernel_rfl
theorem bd48 : bodied Try.prog 48 = true := by kernel_rfl
theorem bd49 : bodied Try.prog 49 = true := by kernel_rfl
theorem bd50 : bodied Try.prog 50 = true := by kernel_rfl
theorem bd51 : bodied Try.prog 51 = true := by kernel_rfl
theorem bd63 : bodied Try.prog 63 = true := by kernel_rfl
theorem bd64 : bodied Try.prog 64 = true := by kernel_rfl
theorem bd65 : bodied Try.prog 65 = true := by kernel_rfl
theorem bd79 : bodied Try.prog 79 = true := by kernel_rfl
theorem bd89 : bodied Try.prog 89 = true := by kernel_rfl
theorem el116 : Elem Try.prog 116 3 1 8 := Elem.of (by kernel_rfl)
theorem el29 : Elem Try.prog 29 5 1 1 := Elem.of (by kernel_rfl)
theorem fo46_1 : offB Try.prog 46 1 = some 2 := by kernel_rfl
theorem fo53_0 : offB Try.prog 53 0 = some 0 := by kernel_rfl
theorem fo53_1 : offB Try.prog 53 1 = some 3 := by kernel_rfl
theorem fo53_2 : offB Try.prog 53 2 = some 4 := by kernel_rfl
theorem fo53_3 : offB Try.prog 53 3 = some 5 := by kernel_rfl
theorem fo53_4 : offB Try.prog 53 4 = some 6 := by kernel_rfl
theorem fo85_0 : offB Try.prog 85 0 = some 0 := by kernel_rfl
theorem fo85_1 : offB Try.prog 85 1 = some 1 := by kernel_rfl
theorem sz29 : sz Try.prog 29 = some 1 := by kernel_rfl
theorem sz3 : sz Try.prog 3 = some 1 := by kernel_rfl
theorem sz4 : sz Try.prog 4 = some 1 := by kernel_rfl
theorem sz5 : sz Try.prog 5 = some 1 := by kernel_rfl
theorem sz51 : sz Try.prog 51 = some 3 := by kernel_rfl
theorem zr3 : zr Try.prog 3 = some ([.int .i64 0]) := by kernel_rfl
theorem zr5 : zr Try.prog 5 = some ([.int .u8 0]) := by kernel_rfl
end TJtC
open TJtC
theorem journal_Journal_dead_ok {G : Gh} {w : World} (hS : St G w) (hg : GL G) {d0 : Nat} {z0 : journal_Journal} {Ad0_1 : Option Addr} {cd0_1 : Nat} {d1 : Nat} {z1 : List (Int × Int)} (htd1 : MTok G G w d1 z1) {d2 : Nat} {z2 : disk_Disk} {Ad2_1 : Option Addr} {cd2_1 : Nat} {Ad2_2 : Option Addr} {cd2_2 : Nat} {Ad2_3 : Option Addr} {cd2_3 : Nat} (htd2 : Tok G w d2 53 ([.slice Ad2_1 z2.files_.e0_.length cd2_1, .slice Ad2_2 z2.files_.e1_.length cd2_2, .slice Ad2_3 z2.files_.e2_.length cd2_3, vi z2.room_, .bool z2.off_, .bool z2.armed_, vi z2.left_])) (hcd2_1 : z2.files_.e0_.length ≤ cd2_1) (hsd2_1 : Sl G Ad2_1 z2.files_.e0_) (hcd2_2 : z2.files_.e1_.length ≤ cd2_2) (hsd2_2 : Sl G Ad2_2 z2.files_.e1_) (hcd2_3 : z2.files_.e2_.length ≤ cd2_3) (hsd2_3 : Sl G Ad2_3 z2.files_.e2_) (htd0 : Tok G w d0 46 ([.slice Ad0_1 z0.book_.l_.length cd0_1, .map (some d1), .pointer (some ⟨d2, 0, none⟩), vi z0.gen_, vi z0.place_])) (hcd0_1 : z0.book_.l_.length ≤ cd0_1) (hsd0_1 : Sl G Ad0_1 z0.book_.l_) {Q : Bool → Prop} (h : journal_Journal_dead z0 z1 z2 Q) : Calls Try.prog 39 #[.pointer (some ⟨d0, 0, none⟩)] w fun e w2 => ∃ (r0 : Bool) (L H : Gh), e = .returned (.bool r0) ∧ Inv [] G w L H w2 ∧ Q r0 := by
 unfold journal_Journal_dead at h
 have hI := Inv.start (M := []) hS
 refine calls_W 12 Try.func39 rfl Try.ntmps39 rfl [.tmp 2] rfl ?_
 have hlt_d0 := htd0.blk.lt
 have hlt_d1 := htd1.lt
 have hlt_d2 := htd2.blk.lt
 refine W_seq_k fun K1 k1 => ?_
 refine W_region [2] rfl (Ops_step (R_assign rfl) rfl rfl ?_)
 refine Ops_nil ?_
 refine then_n (k1 _ _ ?_)
 clear k1 K1
 refine W_seq_k fun K2 k2 => ?_
 refine W_region [3, 4, 5, 6, 7, 8, 9, 10, 11, 2] rfl (Ops_step (R_move rfl) rfl rfl (Ops_step (R_ptrNil Try.underlying26 rfl rfl) rfl rfl (Ops_step (R_move rfl) rfl rfl (Ops_step (R_move rfl) rfl rfl ?_))))
 refine Ops_step (R_nilCheck rfl) rfl rfl (Ops_step (R_fieldAddr fo46_1 rfl) rfl rfl ?_)
 refine Ops_step (R_loadB (v := .pointer (some ⟨d2, 0, none⟩)) ag25 rfl htd0.blk rfl) rfl rfl ?_
 refine Ops_step (R_ptrNil Try.underlying25 rfl rfl) rfl rfl (Ops_step (R_pick_false rfl rfl) rfl rfl (Ops_step (R_assign rfl) rfl rfl ?_))
 refine Ops_nil ?_
 refine then_n (k2 _ _ ?_)
 clear k2 K2
 refine W_keepB [2] fun B_ b_ => ?_
 simp only [e_, Nat.reduceAdd, Nat.reduceBEq] at b_
 subst b_
 refine W_ret ?_
 refine ⟨_, ⟨_, _, rfl, rfl, rfl⟩, ?_⟩
 exact ⟨false, _, _, rfl, hI, h⟩

theorem octet_Put_ok {G : Gh} {w : World} (hS : St G w) (hg : GL G) {A0 : Option Addr} {c0 : Nat} {x0 : List UInt8} (hc0 : x0.length ≤ c0) (hs0 : Sl G A0 x0) {A1 : Option Addr} {c1 : Nat} {x1 : List Int} (hc1 : x1.length ≤ c1) (hs1 : Sl G A1 x1) {Q : (List UInt8) → Prop} (h : octet_Put x0 x1 Q) : Calls Try.prog 64 #[.slice A0 x0.length c0, .slice A1 x1.length c1] w fun e w2 => ∃ (A0 : Option Addr) (c0 : Nat) (r0 : List UInt8) (L H : Gh), e = .returned (.slice A0 r0.length c0) ∧ Inv [] G w L H w2 ∧ OwnS w.heap.size 5 L H w2 A0 c0 r0 ∧ Q r0 := by
 unfold octet_Put at h
 have hI := Inv.start (M := []) hS
 refine calls_W 39 Try.func64 rfl Try.ntmps64 rfl [.tmp 4] rfl ?_
 refine W_seq_k fun K1 k1 => ?_
 refine W_region [4] rfl (Ops_step (R_assign rfl) rfl rfl ?_)
 refine Ops_nil ?_
 refine then_n (k1 _ _ ?_)
 clear k1 K1
 refine W_seq_k fun K2 k2 => ?_
 refine W_region [9, 10, 11, 12, 13, 14, 15, 16, 17, 5] rfl (Ops_step (R_move rfl) rfl rfl (Ops_step (R_len Try.underlying29 rfl rfl) rfl rfl (Ops_step (R_move rfl) rfl rfl (Ops_step (R_len Try.underlying116 rfl rfl) rfl rfl ?_))))
 have hk3_ := h.1
 replace h := h.2
 refine Ops_step (R_mul rfl rfl (wI hk3_.1 hk3_.2)) rfl rfl ?_
 have hk4_ := h.1
 replace h := h.2
 refine Ops_step (R_add rfl rfl (wI hk4_.1 hk4_.2)) rfl rfl ?_
 have hk6_ := h.1
 replace h := h.2
 have hk7_ := h.1
 replace h := h.2
 refine Ops_to (X_make0 (α := UInt8) (Eg := Gh.no) (B := _) el29 rfl rfl hk6_ hI.st hk7_ (by decide) (Nat.le_refl _)) rfl rfl ?_
 rintro _ w5_ ⟨A5_, c5_, rfl, ho5_, hF5_⟩
 replace ho5_ := ho5_.le hI.size
 replace hI := hI.fr0 hF5_
 clear hF5_
 refine Ops_step (R_move rfl) rfl rfl ?_
 have hk9_ := h.1
 replace h := h.2
 refine Ops_to (X_append (α := UInt8) (xs := ([] : List UInt8)) (ys := x0) el29 rfl rfl ho5_ (Srcs.sc (Srcs.ofSl Try.underlying29 hs0 hI.st (by decide))) hI.st hk9_ (by decide) hI.size) rfl rfl ?_
 rintro _ w8_ ⟨A8_, c8_, rfl, ho8_, hF8_, hbk8_⟩
 clear hbk8_
 replace hI := hI.tok hF8_ ho5_.out (ho5_.new (Nat.le_refl _))
 clear hF8_ ho5_
 refine Ops_step (R_assign rfl) rfl rfl ?_
 refine Ops_nil ?_
 refine then_n (k2 _ _ ?_)
 clear k2 K2
 refine W_keepB [1, 5] fun B_ b_ => ?_
 simp only [e_, Nat.reduceAdd, Nat.reduceBEq] at b_
 subst b_
 refine ex_ h fun J11_ hr11_ h => ?_
 refine W_seq_join [] [5] (fun vals_ w2 => ∃ (x5_11 : List UInt8) (A5_11 : Option Addr) (c5_11 : Nat) (L H : Gh), vals_ = [.slice A5_11 x5_11.length c5_11] ∧ J11_ x5_11 ∧ Inv [] G w L H w2 ∧ Le Gh.no L ∧ Le G H ∧ OwnS w.heap.size 5 Gh.no H w2 A5_11 c5_11 x5_11 ∧ True) (fun B_ b_ => ?_) (fun B_ b_ => ?_)
 ·
  simp only [e_, Nat.reduceAdd, Nat.reduceBEq] at b_
  subst b_
  clear hr11_
  have hll11_ := Le.refl Gh.no
  have hhh11_ := Le.refl G
  refine W_seq_k fun K12 k12 => ?_
  refine W_region [18, 19, 20] rfl (Ops_step (R_move rfl) rfl rfl (Ops_step (R_len Try.underlying116 rfl rfl) rfl rfl (Ops_step (R_move rfl) rfl rfl ?_)))
  refine Ops_nil ?_
  refine then_n (k12 _ _ ?_)
  clear k12 K12
  refine W_block ?_
  refine Exists.elim h fun I13_ h => Exists.elim h fun n13_ h => ?_
  have h0_ := h.1
  have hs13_ := h.2
  clear h
  refine W_loopB [18, 19] [5, 20] (fun m vals_ w2 => ∃ (x5_13 : List UInt8) (A5_13 : Option Addr) (c5_13 : Nat) (x20_13 : Int) (L H : Gh), vals_ = [.slice A5_13 x5_13.length c5_13, vi x20_13] ∧ I13_ m x5_13 x20_13 ∧ Inv [] G w L H w2 ∧ Le Gh.no L ∧ Le G H ∧ OwnS w.heap.size 5 Gh.no H w2 A5_13 c5_13 x5_13 ∧ True) n13_ _ rfl ⟨(([] : List UInt8) ++ x0), A8_, c8_, 0, _, _, rfl, h0_, hI, Le.refl _, Le.refl _, ho8_, trivial⟩ fun B_ b_ => ?_
  clear h0_
  simp only [e_, Nat.reduceAdd, Nat.reduceBEq] at b_
  subst b_
  rintro m13_ _ w13_ ⟨x5_13, A5_13, c5_13, x20_13, L13_, H13_, rfl, hJ13_, hI13_, hll13_, hhh13_, ho5_13, -⟩
  replace hI := hI13_
  clear hI13_
  have h := hs13_ m13_ x5_13 x20_13 hJ13_
  clear hs13_ hJ13_
  replace hs1 := hs1.up hhh13_
  replace hll11_ := hll11_.trans hll13_
  replace hhh11_ := hhh11_.trans hhh13_
  refine W_seq_k fun K14 k14 => ?_
  refine W_region [21] rfl (Ops_step (R_lss rfl rfl) rfl rfl ?_)
  refine Ops_nil ?_
  refine then_n (k14 _ _ ?_)
  clear k14 K14
  refine W_seq_k fun K15 k15 => ?_
  refine W_if rfl (fun hc16_ => ?_) (fun hc16_ => ?_)
  ·
   replace h := h.1 hc16_
   refine W_skip ?_
   refine then_n (k15 _ _ ?_)
   clear k15 K15
   refine ex_ h fun J17_ hr17_ h => ?_
   refine W_seq_join [18, 19, 20] [5] (fun vals_ w2 => ∃ (x5_17 : List UInt8) (A5_17 : Option Addr) (c5_17 : Nat) (L H : Gh), vals_ = [.slice A5_17 x5_17.length c5_17] ∧ J17_ x5_17 ∧ Inv [] G w L H w2 ∧ Le L13_ L ∧ Le H13_ H ∧ OwnS w.heap.size 5 Gh.no H w2 A5_17 c5_17 x5_17 ∧ True) (fun B_ b_ => ?_) (fun B_ b_ => ?_)
   ·
    simp only [e_, Nat.reduceAdd, Nat.reduceBEq] at b_
    subst b_
    clear hr17_
    have hll17_ := Le.refl L13_
    have hhh17_ := Le.refl H13_
    refine W_block ?_
    refine W_seq_k fun K18 k18 => ?_
    refine W_region [22, 23, 7] rfl ?_
    refine ex_ h fun x19_ hx19_ h => ?_
    have ha19_ := (hs1.atS hx19_).1
    have hg19_ := (hs1.atS hx19_).2
    refine Ops_step (R_indexSl Try.underlying116 sz3 rfl rfl hx19_.1 hx19_.lt ha19_) rfl rfl (Ops_step (R_load ag3 rfl (hI.st _ _ hg19_)) rfl rfl (Ops_step (R_assign rfl) rfl rfl ?_))
    refine Ops_nil ?_
    refine then_n (k18 _ _ ?_)
    clear k18 K18
    refine W_seq_k fun K20 k20 => ?_
    refine W_region [8] rfl (Ops_step (R_assign rfl) rfl rfl ?_)
    refine Ops_nil ?_
    refine then_n (k20 _ _ ?_)
    clear k20 K20
    refine W_block ?_
    refine Exists.elim h fun I21_ h => Exists.elim h fun n21_ h => ?_
    have h0_ := h.1
    have hs21_ := h.2
    clear h
    refine W_loopB [7, 18, 19, 20] [5, 8] (fun m vals_ w2 => ∃ (x5_21 : List UInt8) (A5_21 : Option Addr) (c5_21 : Nat) (x8_21 : Int) (L H : Gh), vals_ = [.slice A5_21 x5_21.length c5_21, vi x8_21] ∧ I21_ m x5_21 x8_21 ∧ Inv [] G w L H w2 ∧ Le L13_ L ∧ Le H13_ H ∧ OwnS w.heap.size 5 Gh.no H w2 A5_21 c5_21 x5_21 ∧ True) n21_ _ rfl ⟨x5_13, A5_13, c5_13, 7, _, _, rfl, h0_, hI, Le.refl _, Le.refl _, ho5_13, trivial⟩ fun B_ b_ => ?_
    clear h0_
    simp only [e_, Nat.reduceAdd, Nat.reduceBEq] at b_
    subst b_
    rintro m21_ _ w21_ ⟨x5_21, A5_21, c5_21, x8_21, L21_, H21_, rfl, hJ21_, hI21_, hll21_, hhh21_, ho5_21, -⟩
    replace hI := hI21_
    clear hI21_
    have h := hs21_ m21_ x5_21 x8_21 hJ21_
    clear hs21_ hJ21_
    replace hs1 := hs1.up hhh21_
    replace hll11_ := hll11_.trans hll21_
    replace hhh11_ := hhh11_.trans hhh21_
    replace hll13_ := hll13_.trans hll21_
    replace hhh13_ := hhh13_.trans hhh21_
    replace hll17_ := hll17_.trans hll21_
    replace hhh17_ := hhh17_.trans hhh21_
    refine W_seq_k fun K22 k22 => ?_
    refine W_seq_k fun K23 k23 => ?_
    refine W_region [24, 25] rfl (Ops_step (R_move rfl) rfl rfl (Ops_step (R_geq rfl rfl) rfl rfl ?_))
    refine Ops_nil ?_
    refine then_n (k23 _ _ ?_)
    clear k23 K23
    refine W_if rfl (fun hc24_ => ?_) (fun hc24_ => ?_)
    ·
     replace h := h.1 hc24_
     refine W_skip ?_
     refine then_n (k22 _ _ ?_)
     clear k22 K22
     refine W_seq_k fun K25 k25 => ?_
     refine W_block ?_
     refine W_region [28, 29, 30, 31, 32, 33, 34, 35, 36, 5] rfl (Ops_step (R_move rfl) rfl rfl (Ops_step (R_move rfl) rfl rfl (Ops_step (R_max rfl rfl _root_.rfl) rfl rfl (Ops_step (R_move rfl) rfl rfl ?_))))
     have hk26_ := h.1
     replace h := h.2
     refine Ops_step (R_mul rfl rfl (wI hk26_.1 hk26_.2)) rfl rfl ?_
     have hk27_ := h.1
     replace h := h.2
     refine Ops_step (R_shr rfl rfl (Int.not_lt.2 hk27_) (c := shrI (max x19_ 0) (8 * x8_21)) _root_.rfl) rfl rfl ?_
     refine Ops_step (R_conv Try.underlying3 Try.underlying5 rfl (cI_8 _)) rfl rfl ?_
     have hlo28_ho5_21 := ho5_21.lt
     refine Ops_to (R_buildSlice el29 zr5 (by decide) (by decide) rfl rfl) rfl rfl ?_
     rintro _ w28_ ⟨b28_, rfl, hb28_, hB28_, hF28_⟩
     have ho28_ : OwnS w.heap.size 5 Gh.no H21_ _ (some ⟨b28_, 0, none⟩) 1 ([(UInt8.ofBitVec (BitVec.ofInt 8 (shrI (max x19_ 0) (8 * x8_21))))] : List UInt8) := OwnS.ofBlk hI.st hb28_ hB28_ (all2_sc' _) rfl (by have := hI.size; omega) (by show 1 ≤ maxLen; decide)
     replace hI := hI.fr0 hF28_
     replace ho5_21 := ho5_21.fr0 hF28_
     clear hF28_ hB28_
     have hsp28_ho5_21 : ∀ i ∈ bk (some ⟨b28_, 0, none⟩) 1, i ∉ bk A5_21 c5_21 := sep_new (fun i_ hi_ => by have := (bk_of hi_).1; simp only [blkOf, List.mem_singleton] at this; omega) hlo28_ho5_21
     have hk30_ := h.1
     replace h := h.2
     refine Ops_to (X_append (α := UInt8) (xs := x5_21) (ys := ([(UInt8.ofBitVec (BitVec.ofInt 8 (shrI (max x19_ 0) (8 * x8_21))))] : List UInt8)) el29 rfl rfl ho5_21 (Srcs.sc (Srcs.ofOwn Try.underlying29 ho28_ (by decide))) hI.st hk30_ (by decide) hI.size) rfl rfl ?_
     rintro _ w29_ ⟨A29_, c29_, rfl, ho29_, hF29_, hbk29_⟩
     clear hbk29_
     replace hI := hI.tok hF29_ ho5_21.out (ho5_21.new (Nat.le_refl _))
     clear hF29_ ho5_21
     refine Ops_step (R_assign rfl) rfl rfl ?_
     refine Ops_nil ?_
     refine block_n ?_
     refine then_n (k25 _ _ ?_)
     clear k25 K25
     refine W_keepB [5, 7, 8, 18, 19, 20] fun B_ b_ => ?_
     simp only [e_, Nat.reduceAdd, Nat.reduceBEq] at b_
     subst b_
     refine W_region [26, 27, 8] rfl (Ops_step (R_move rfl) rfl rfl ?_)
     have hk32_ := h.1
     replace h := h.2
     refine Ops_step (R_sub rfl rfl (wI hk32_.1 hk32_.2)) rfl rfl (Ops_step (R_assign rfl) rfl rfl ?_)
     refine Ops_nil ?_
     refine then_n ?_
     exact h.elim fun m_ h => ⟨m_, _, h.1, rfl, ⟨(x5_21 ++ ([(UInt8.ofBitVec (BitVec.ofInt 8 (shrI (max x19_ 0) (8 * x8_21))))] : List UInt8)), A29_, c29_, (x8_21 - 1), _, _, rfl, h.2, hI, hll21_, hhh21_, ho29_, trivial⟩, ⟨rfl, rfl, rfl, rfl, trivial⟩⟩
    ·
     replace h := h.2 hc24_
     refine W_exit ?_
     refine then_exit ?_
     clear k22 K22
     refine then_exit ?_
     refine block_exit ?_
     refine block_n ?_
     refine then_n ?_
     exact ⟨_, rfl, ⟨x5_21, A5_21, c5_21, _, _, rfl, h, hI, hll17_, hhh17_, ho5_21, trivial⟩, ⟨rfl, rfl, rfl, trivial⟩⟩
   ·
    simp only [e_, Nat.reduceAdd, Nat.reduceBEq] at b_
    subst b_
    clear h
    rintro _ w17_ ⟨x5_17, A5_17, c5_17, L17_, H17_, rfl, hJ17_, hI17_, hll17_, hhh17_, ho5_17, -⟩
    replace hI := hI17_
    clear hI17_
    have h := hr17_ x5_17 hJ17_
    clear hr17_ hJ17_
    replace hs1 := hs1.up hhh17_
    replace hll11_ := hll11_.trans hll17_
    replace hhh11_ := hhh11_.trans hhh17_
    replace hll13_ := hll13_.trans hll17_
    replace hhh13_ := hhh13_.trans hhh17_
    refine W_region [37, 20] rfl ?_
    have hk33_ := h.1
    replace h := h.2
    refine Ops_step (R_add rfl rfl (wI hk33_.1 hk33_.2)) rfl rfl (Ops_step (R_move rfl) rfl rfl ?_)
    refine Ops_nil ?_
    refine then_n ?_
    exact h.elim fun m_ h => ⟨m_, _, h.1, rfl, ⟨x5_17, A5_17, c5_17, (x20_13 + 1), _, _, rfl, h.2, hI, hll13_, hhh13_, ho5_17, trivial⟩, ⟨rfl, rfl, trivial⟩⟩
  ·
   replace h := h.2 hc16_
   refine W_exit ?_
   refine then_exit ?_
   clear k15 K15
   refine then_exit ?_
   refine block_exit ?_
   refine then_n ?_
   exact ⟨_, rfl, ⟨x5_13, A5_13, c5_13, _, _, rfl, h, hI, hll11_, hhh11_, ho5_13, trivial⟩, trivial⟩
 ·
  simp only [e_, Nat.reduceAdd, Nat.reduceBEq] at b_
  subst b_
  clear h
  rintro _ w11_ ⟨x5_11, A5_11, c5_11, L11_, H11_, rfl, hJ11_, hI11_, hll11_, hhh11_, ho5_11, -⟩
  replace hI := hI11_
  clear hI11_
  have h := hr11_ x5_11 hJ11_
  clear hr11_ hJ11_
  refine W_seq_k fun K34 k34 => ?_
  refine W_region [38, 4] rfl (Ops_step (R_move rfl) rfl rfl (Ops_step (R_assign rfl) rfl rfl ?_))
  refine Ops_nil ?_
  refine then_n (k34 _ _ ?_)
  clear k34 K34
  refine W_ret ?_
  refine ⟨_, ⟨_, _, rfl, rfl, rfl⟩, ?_⟩
  exact ⟨A5_11, c5_11, x5_11, _, _, rfl, hI, (ho5_11.hl (Le.no _)), h⟩

theorem octet_PutBytes_ok {G : Gh} {w : World} (hS : St G w) (hg : GL G) {A0 : Option Addr} {c0 : Nat} {x0 : List UInt8} (hc0 : x0.length ≤ c0) (hs0 : Sl G A0 x0) {A1 : Option Addr} {c1 : Nat} {x1 : List UInt8} (hc1 : x1.length ≤ c1) (hs1 : Sl G A1 x1) {Q : (List UInt8) → Prop} (h : octet_PutBytes x0 x1 Q) : Calls Try.prog 65 #[.slice A0 x0.length c0, .slice A1 x1.length c1] w fun e w2 => ∃ (A0 : Option Addr) (c0 : Nat) (r0 : List UInt8) (L H : Gh), e = .returned (.slice A0 r0.length c0) ∧ Inv [] G w L H w2 ∧ OwnS w.heap.size 5 L H w2 A0 c0 r0 ∧ Q r0 := by
 unfold octet_PutBytes at h
 have hI := Inv.start (M := []) hS
 refine calls_W 12 Try.func65 rfl Try.ntmps65 rfl [.tmp 4] rfl ?_
 refine W_seq_k fun K1 k1 => ?_
 refine W_region [4] rfl (Ops_step (R_assign rfl) rfl rfl ?_)
 refine Ops_nil ?_
 refine then_n (k1 _ _ ?_)
 clear k1 K1
 refine W_seq_k fun K2 k2 => ?_
 refine W_region [5, 6, 7, 8, 9, 10, 11, 4] rfl (Ops_step (R_move rfl) rfl rfl (Ops_step (R_move rfl) rfl rfl (Ops_step (R_len Try.underlying29 rfl rfl) rfl rfl ?_)))
 refine Ops_to (R_buildSlice el116 zr3 (by decide) (by decide) rfl rfl) rfl rfl ?_
 rintro _ w3_ ⟨b3_, rfl, hb3_, hB3_, hF3_⟩
 have ho3_ : OwnS w.heap.size 3 Gh.no G _ (some ⟨b3_, 0, none⟩) 1 ([(x1.length : Int)] : List Int) := OwnS.ofBlk hI.st hb3_ hB3_ (all2_sc' _) rfl (by have := hI.size; omega) (by show 1 ≤ maxLen; decide)
 replace hI := hI.fr0 hF3_
 clear hF3_ hB3_
 refine Exists.elim (ho3_.lend hI.st (Le.no _)) fun Hb4_0_ hb4_0_ => ?_
 refine Ops_call (C_func bd64 rfl) rfl rfl ?_
 refine (octet_Put_ok (x0 := x0) (x1 := ([(x1.length : Int)] : List Int)) hb4_0_.1 (hg.up (hI.le.trans hb4_0_.2.1)) hc0 (hs0.up hb4_0_.2.1) (Nat.le_refl _) hb4_0_.2.2 h).mono ?_
 rintro _ w4_ ⟨A4_0, c4_0, r4_0, L4_, H4_, rfl, hI4_, ho4_0, h⟩
 refine Exists.elim (hI.callB hb4_0_.2.1 hI4_ (by simp)) fun L40_ h4_ => Exists.elim h4_ fun H40_ h4_ => ?_
 have hz4_ := hI.size
 replace hI := h4_.1
 have u4_ := h4_.2.1
 have hl4_ := h4_.2.2.1
 have hh4_ := h4_.2.2.2
 clear h4_
 replace hs1 := hs1.up u4_.hh
 replace ho4_0 := OwnS.backS ho4_0 hz4_ hh4_
 clear hI4_ u4_ hl4_
 refine ⟨_, rfl, ?_⟩
 refine Ops_step (R_move rfl) rfl rfl ?_
 have hk6_ := h.1
 replace h := h.2
 refine Ops_to (X_append (α := UInt8) (xs := r4_0) (ys := x1) el29 rfl rfl ho4_0 (Srcs.sc (Srcs.ofSl Try.underlying29 hs1 hI.st (by decide))) hI.st hk6_ (by decide) hI.size) rfl rfl ?_
 rintro _ w5_ ⟨A5_, c5_, rfl, ho5_, hF5_, hbk5_⟩
 clear hbk5_
 replace hI := hI.tok hF5_ ho4_0.out (ho4_0.new (Nat.le_refl _))
 clear hF5_ ho4_0
 refine Ops_step (R_assign rfl) rfl rfl ?_
 refine Ops_nil ?_
 refine then_n (k2 _ _ ?_)
 clear k2 K2
 refine W_keepB [4] fun B_ b_ => ?_
 simp only [e_, Nat.reduceAdd, Nat.reduceBEq] at b_
 subst b_
 refine W_ret ?_
 refine ⟨_, ⟨_, _, rfl, rfl, rfl⟩, ?_⟩
 exact ⟨A5_, c5_, (r4_0 ++ x1), _, _, rfl, hI, (ho5_.hl (Le.no _)), h⟩

theorem octet_Seal_ok {G : Gh} {w : World} (hS : St G w) (hg : GL G) {A0 : Option Addr} {c0 : Nat} {x0 : List UInt8} (hc0 : x0.length ≤ c0) (hs0 : Sl G A0 x0) {Q : (List UInt8) → Int → Prop} (h : octet_Seal x0 Q) : Calls Try.prog 79 #[.slice A0 x0.length c0] w fun e w2 => ∃ (A0 : Option Addr) (c0 : Nat) (r0 : List UInt8) (r1 : Int) (L H : Gh), e = .returned (.tuple #[.slice A0 r0.length c0, vi r1]) ∧ Inv [] G w L H w2 ∧ OwnS w.heap.size 5 L H w2 A0 c0 r0 ∧ Q r0 r1 := by
 unfold octet_Seal at h
 have hI := Inv.start (M := []) hS
 refine calls_W 27 Try.func79 rfl Try.ntmps79 rfl [.tmp 2, .tmp 3] rfl ?_
 refine W_seq_k fun K1 k1 => ?_
 refine W_region [2, 3] rfl (Ops_step (R_assign rfl) rfl rfl (Ops_step (R_assign rfl) rfl rfl ?_))
 refine Ops_nil ?_
 refine then_n (k1 _ _ ?_)
 clear k1 K1
 refine W_seq_k fun K2 k2 => ?_
 refine W_seq_k fun K3 k3 => ?_
 refine W_region [6, 7, 8] rfl (Ops_step (R_move rfl) rfl rfl (Ops_step (R_len Try.underlying29 rfl rfl) rfl rfl (Ops_step (R_gtr rfl rfl) rfl rfl ?_)))
 refine Ops_nil ?_
 refine then_n (k3 _ _ ?_)
 clear k3 K3
 refine W_if rfl (fun hc4_ => ?_) (fun hc4_ => ?_)
 ·
  replace h := h.1 hc4_
  refine W_seq_k fun K5 k5 => ?_
  refine W_region [2, 3] rfl (Ops_step (R_assign rfl) rfl rfl (Ops_step (R_assign rfl) rfl rfl ?_))
  refine Ops_nil ?_
  refine then_n (k5 _ _ ?_)
  clear k5 K5
  refine W_ret ?_
  refine then_ret ?_
  clear k2 K2
  refine ⟨_, ⟨_, _, rfl, rfl, ⟨_, _, rfl, rfl, rfl⟩⟩, ?_⟩
  exact ⟨none, 0, [], 4, _, _, rfl, hI, OwnS.nil, h⟩
 ·
  replace h := h.2 hc4_
  refine W_skip ?_
  refine then_n (k2 _ _ ?_)
  clear k2 K2
  refine W_seq_k fun K6 k6 => ?_
  refine W_region [9, 10, 4] rfl (Ops_step (R_move rfl) rfl rfl ?_)
  refine Ops_call (C_func bd65 rfl) rfl rfl ?_
  refine (octet_PutBytes_ok (x0 := []) (x1 := x0) hI.st (hg.up hI.le) (Nat.le_refl 0) Sl.nil hc0 hs0 h).mono ?_
  rintro _ w7_ ⟨A7_0, c7_0, r7_0, L7_, H7_, rfl, hI7_, ho7_0, h⟩
  refine Exists.elim (hI.call hI7_ (by simp)) fun L70_ h7_ => ?_
  have hz7_ := hI.size
  replace hI := h7_.1
  have u7_ := h7_.2.1
  have hl7_ := h7_.2.2
  clear h7_
  replace ho7_0 := OwnS.backS ho7_0 hz7_ (Le.refl _)
  clear hI7_ u7_ hl7_
  refine ⟨_, rfl, ?_⟩
  refine Ops_step (R_assign rfl) rfl rfl ?_
  refine Ops_nil ?_
  refine then_n (k6 _ _ ?_)
  clear k6 K6
  refine W_keepB [4] fun B_ b_ => ?_
  simp only [e_, Nat.reduceAdd, Nat.reduceBEq] at b_
  subst b_
  refine W_seq_k fun K9 k9 => ?_
  refine W_region [11, 12, 5] rfl (Ops_step (R_move rfl) rfl rfl ?_)
  refine Exists.elim (ho7_0.lend hI.st (Le.no _)) fun Hb10_0_ hb10_0_ => ?_
  refine Ops_call (C_func bd89 rfl) rfl rfl ?_
  refine (octet_Sum_ok (x0 := r7_0) hb10_0_.1 (hg.up (hI.le.trans hb10_0_.2.1)) ho7_0.cap hb10_0_.2.2 h).mono ?_
  rintro _ w10_ ⟨r10_0, L10_, H10_, rfl, hI10_, h⟩
  refine Exists.elim (hI.callB hb10_0_.2.1 hI10_ (by simp)) fun L100_ h10_ => Exists.elim h10_ fun H100_ h10_ => ?_
  have hz10_ := hI.size
  replace hI := h10_.1
  have u10_ := h10_.2.1
  have hl10_ := h10_.2.2.1
  have hh10_ := h10_.2.2.2
  clear h10_
  replace ho7_0 := ho7_0.up (Le.refl _) u10_ (by simp)
  clear hI10_ u10_ hl10_
  refine ⟨_, rfl, ?_⟩
  refine Ops_step (R_assign rfl) rfl rfl ?_
  refine Ops_nil ?_
  refine then_n (k9 _ _ ?_)
  clear k9 K9
  refine W_seq_k fun K11 k11 => ?_
  refine W_region [13, 14, 15, 16, 17, 18, 19, 20, 21, 22, 23, 24, 25, 26, 2, 3] rfl (Ops_step (R_move rfl) rfl rfl (Ops_step (R_move rfl) rfl rfl (Ops_step (R_shr rfl rfl (by decide) (shr32 r10_0 24 (by decide))) rfl rfl (Ops_step (R_conv Try.underlying124 Try.underlying5 rfl (c32_8 _)) rfl rfl ?_))))
  refine Ops_step (R_move rfl) rfl rfl (Ops_step (R_shr rfl rfl (by decide) (shr32 r10_0 16 (by decide))) rfl rfl (Ops_step (R_conv Try.underlying124 Try.underlying5 rfl (c32_8 _)) rfl rfl (Ops_step (R_move rfl) rfl rfl (Ops_step (R_shr rfl rfl (by decide) (shr32 r10_0 8 (by decide))) rfl rfl ?_))))
  refine Ops_step (R_conv Try.underlying124 Try.underlying5 rfl (c32_8 _)) rfl rfl (Ops_step (R_move rfl) rfl rfl (Ops_step (R_conv Try.underlying124 Try.underlying5 rfl (c32_8 _)) rfl rfl ?_))
  have hlo12_ho7_0 := ho7_0.lt
  refine Ops_to (R_buildSlice el29 zr5 (by decide) (by decide) rfl rfl) rfl rfl ?_
  rintro _ w12_ ⟨b12_, rfl, hb12_, hB12_, hF12_⟩
  have ho12_ : OwnS w.heap.size 5 Gh.no H100_ _ (some ⟨b12_, 0, none⟩) 4 ([(UInt8.ofBitVec ((r10_0 >>> (24 : Nat)).setWidth 8)), (UInt8.ofBitVec ((r10_0 >>> (16 : Nat)).setWidth 8)), (UInt8.ofBitVec ((r10_0 >>> (8 : Nat)).setWidth 8)), (UInt8.ofBitVec (r10_0.setWidth 8))] : List UInt8) := OwnS.ofBlk hI.st hb12_ hB12_ (all2_sc' _) rfl (by have := hI.size; omega) (by show 4 ≤ maxLen; decide)
  replace hI := hI.fr0 hF12_
  replace ho7_0 := ho7_0.fr0 hF12_
  clear hF12_ hB12_
  have hsp12_ho7_0 : ∀ i ∈ bk (some ⟨b12_, 0, none⟩) 4, i ∉ bk A7_0 c7_0 := sep_new (fun i_ hi_ => by have := (bk_of hi_).1; simp only [blkOf, List.mem_singleton] at this; omega) hlo12_ho7_0
  have hk14_ := h.1
  replace h := h.2
  refine Ops_to (X_append (α := UInt8) (xs := r7_0) (ys := ([(UInt8.ofBitVec ((r10_0 >>> (24 : Nat)).setWidth 8)), (UInt8.ofBitVec ((r10_0 >>> (16 : Nat)).setWidth 8)), (UInt8.ofBitVec ((r10_0 >>> (8 : Nat)).setWidth 8)), (UInt8.ofBitVec (r10_0.setWidth 8))] : List UInt8)) el29 rfl rfl ho7_0 (Srcs.sc (Srcs.ofOwn Try.underlying29 ho12_ (by decide))) hI.st hk14_ (by decide) hI.size) rfl rfl ?_
  rintro _ w13_ ⟨A13_, c13_, rfl, ho13_, hF13_, hbk13_⟩
  clear hbk13_
  replace hI := hI.tok hF13_ ho7_0.out (ho7_0.new (Nat.le_refl _))
  clear hF13_ ho7_0
  refine Ops_step (R_assign rfl) rfl rfl (Ops_step (R_assign rfl) rfl rfl ?_)
  refine Ops_nil ?_
  refine then_n (k11 _ _ ?_)
  clear k11 K11
  refine W_keepB [2, 3] fun B_ b_ => ?_
  simp only [e_, Nat.reduceAdd, Nat.reduceBEq] at b_
  subst b_
  refine W_ret ?_
  refine ⟨_, ⟨_, _, rfl, rfl, ⟨_, _, rfl, rfl, rfl⟩⟩, ?_⟩
  exact ⟨A13_, c13_, (r7_0 ++ ([(UInt8.ofBitVec ((r10_0 >>> (24 : Nat)).setWidth 8)), (UInt8.ofBitVec ((r10_0 >>> (16 : Nat)).setWidth 8)), (UInt8.ofBitVec ((r10_0 >>> (8 : Nat)).setWidth 8)), (UInt8.ofBitVec (r10_0.setWidth 8))] : List UInt8)), 0, _, _, rfl, hI, (ho13_.hl (Le.no _)), h⟩

theorem journal_seal_ok {G : Gh} {w : World} (hS : St G w) (hg : GL G) {A0 : Option Addr} {c0 : Nat} {x0 : List UInt8} (hc0 : x0.length ≤ c0) (hs0 : Sl G A0 x0) {Q : (List UInt8) → Prop} (h : journal_seal x0 Q) : Calls Try.prog 63 #[.slice A0 x0.length c0] w fun e w2 => ∃ (A0 : Option Addr) (c0 : Nat) (r0 : List UInt8) (L H : Gh), e = .returned (.slice A0 r0.length c0) ∧ Inv [] G w L H w2 ∧ OwnS w.heap.size 5 L H w2 A0 c0 r0 ∧ Q r0 := by
 unfold journal_seal at h
 have hI := Inv.start (M := []) hS
 refine calls_W 11 Try.func63 rfl Try.ntmps63 rfl [.tmp 2] rfl ?_
 refine W_seq_k fun K1 k1 => ?_
 refine W_region [2] rfl (Ops_step (R_assign rfl) rfl rfl ?_)
 refine Ops_nil ?_
 refine then_n (k1 _ _ ?_)
 clear k1 K1
 refine W_seq_k fun K2 k2 => ?_
 refine W_region [6, 7, 5, 8, 9, 3, 4] rfl (Ops_step (R_move rfl) rfl rfl ?_)
 refine Ops_call (C_func bd79 rfl) rfl rfl ?_
 refine (octet_Seal_ok (x0 := x0) hI.st (hg.up hI.le) hc0 hs0 h).mono ?_
 rintro _ w3_ ⟨A3_0, c3_0, r3_0, r3_1, L3_, H3_, rfl, hI3_, ho3_0, h⟩
 refine Exists.elim (hI.call hI3_ (by simp)) fun L30_ h3_ => ?_
 have hz3_ := hI.size
 replace hI := h3_.1
 have u3_ := h3_.2.1
 have hl3_ := h3_.2.2
 clear h3_
 replace ho3_0 := OwnS.backS ho3_0 hz3_ (Le.refl _)
 clear hI3_ u3_ hl3_
 refine ⟨_, rfl, ?_⟩
 refine Ops_step (R_move rfl) rfl rfl ?_
 refine Ops_step (R_extract (v := .slice A3_0 r3_0.length c3_0) rfl rfl) rfl rfl ?_
 refine Ops_step (R_extract (v := vi r3_1) rfl rfl) rfl rfl ?_
 refine Ops_step (R_assign rfl) rfl rfl (Ops_step (R_assign rfl) rfl rfl ?_)
 refine Ops_nil ?_
 refine then_n (k2 _ _ ?_)
 clear k2 K2
 refine W_keepB [3] fun B_ b_ => ?_
 simp only [e_, Nat.reduceAdd, Nat.reduceBEq] at b_
 subst b_
 refine W_seq_k fun K5 k5 => ?_
 refine W_region [10, 2] rfl (Ops_step (R_move rfl) rfl rfl (Ops_step (R_assign rfl) rfl rfl ?_))
 refine Ops_nil ?_
 refine then_n (k5 _ _ ?_)
 clear k5 K5
 refine W_ret ?_
 refine ⟨_, ⟨_, _, rfl, rfl, rfl⟩, ?_⟩
 exact ⟨A3_0, c3_0, r3_0, _, _, rfl, hI, (ho3_0.hl (Le.no _)), h⟩

theorem journal_head_ok {G : Gh} {w : World} (hS : St G w) (hg : GL G) {x0 : Int} {x1 : Int} {Q : (List UInt8) → Prop} (h : journal_head x0 x1 Q) : Calls Try.prog 40 #[vi x0, vi x1] w fun e w2 => ∃ (A0 : Option Addr) (c0 : Nat) (r0 : List UInt8) (L H : Gh), e = .returned (.slice A0 r0.length c0) ∧ Inv [] G w L H w2 ∧ OwnS w.heap.size 5 L H w2 A0 c0 r0 ∧ Q r0 := by
 unfold journal_head at h
 have hI := Inv.start (M := []) hS
 refine calls_W 10 Try.func40 rfl Try.ntmps40 rfl [.tmp 4] rfl ?_
 refine W_seq_k fun K1 k1 => ?_
 refine W_region [4] rfl (Ops_step (R_assign rfl) rfl rfl ?_)
 refine Ops_nil ?_
 refine then_n (k1 _ _ ?_)
 clear k1 K1
 refine W_seq_k fun K2 k2 => ?_
 refine W_region [5, 6, 7, 8, 9, 4] rfl (Ops_step (R_move rfl) rfl rfl (Ops_step (R_move rfl) rfl rfl ?_))
 refine Ops_to (R_buildSlice el116 zr3 (by decide) (by decide) rfl rfl) rfl rfl ?_
 rintro _ w3_ ⟨b3_, rfl, hb3_, hB3_, hF3_⟩
 have ho3_ : OwnS w.heap.size 3 Gh.no G _ (some ⟨b3_, 0, none⟩) 2 ([x0, x1] : List Int) := OwnS.ofBlk hI.st hb3_ hB3_ (all2_sc' _) rfl (by have := hI.size; omega) (by show 2 ≤ maxLen; decide)
 replace hI := hI.fr0 hF3_
 clear hF3_ hB3_
 refine Exists.elim (ho3_.lend hI.st (Le.no _)) fun Hb4_0_ hb4_0_ => ?_
 refine Ops_call (C_func bd64 rfl) rfl rfl ?_
 refine (octet_Put_ok (x0 := []) (x1 := ([x0, x1] : List Int)) hb4_0_.1 (hg.up (hI.le.trans hb4_0_.2.1)) (Nat.le_refl 0) Sl.nil (Nat.le_refl _) hb4_0_.2.2 h).mono ?_
 rintro _ w4_ ⟨A4_0, c4_0, r4_0, L4_, H4_, rfl, hI4_, ho4_0, h⟩
 refine Exists.elim (hI.callB hb4_0_.2.1 hI4_ (by simp)) fun L40_ h4_ => Exists.elim h4_ fun H40_ h4_ => ?_
 have hz4_ := hI.size
 replace hI := h4_.1
 have u4_ := h4_.2.1
 have hl4_ := h4_.2.2.1
 have hh4_ := h4_.2.2.2
 clear h4_
 replace ho4_0 := OwnS.backS ho4_0 hz4_ hh4_
 clear hI4_ u4_ hl4_
 refine ⟨_, rfl, ?_⟩
 refine Exists.elim (ho4_0.freeze hI) fun L5_ h5_ => Exists.elim h5_ fun H5_ h5_ => ?_
 replace hI := h5_.1
 have u5_ := h5_.2.1
 have hs5_ := h5_.2.2.1 (Le.no _)
 have hc5_ := ho4_0.cap
 clear h5_ u5_ ho4_0
 refine Ops_call (C_func bd63 rfl) rfl rfl ?_
 refine (journal_seal_ok (x0 := r4_0) hI.st (hg.up hI.le) hc5_ (hs5_.up hI.sub) h).mono ?_
 rintro _ w6_ ⟨A6_0, c6_0, r6_0, L6_, H6_, rfl, hI6_, ho6_0, h⟩
 refine Exists.elim (hI.call hI6_ (by simp)) fun L60_ h6_ => ?_
 have hz6_ := hI.size
 replace hI := h6_.1
 have u6_ := h6_.2.1
 have hl6_ := h6_.2.2
 clear h6_
 replace ho6_0 := OwnS.backS ho6_0 hz6_ (Le.refl _)
 clear hI6_ u6_ hl6_
 refine ⟨_, rfl, ?_⟩
 refine Ops_step (R_assign rfl) rfl rfl ?_
 refine Ops_nil ?_
 refine then_n (k2 _ _ ?_)
 clear k2 K2
 refine W_keepB [4] fun B_ b_ => ?_
 simp only [e_, Nat.reduceAdd, Nat.reduceBEq] at b_
 subst b_
 refine W_ret ?_
 refine ⟨_, ⟨_, _, rfl, rfl, rfl⟩, ?_⟩
 exact ⟨A6_0, c6_0, r6_0, _, _, rfl, hI, (ho6_0.hl (Le.no _)), h⟩

theorem journal_tell_ok {G : Gh} {w : World} (hS : St G w) (hg : GL G) {x0 : Int} {l1 : List Value} {x1 : journal_record} (hr1 : Rp.cs G x1 l1) {Q : (List UInt8) → Prop} (h : journal_tell x0 x1 Q) : Calls Try.prog 41 #[vi x0, .agg l1.toArray] w fun e w2 => ∃ (A0 : Option Addr) (c0 : Nat) (r0 : List UInt8) (L H : Gh), e = .returned (.slice A0 r0.length c0) ∧ Inv [] G w L H w2 ∧ OwnS w.heap.size 5 L H w2 A0 c0 r0 ∧ Q r0 := by
 unfold journal_tell at h
 have hI := Inv.start (M := []) hS
 refine calls_W 14 Try.func41 rfl Try.ntmps41 rfl [.tmp 4] rfl ?_
 obtain ⟨A1_1, c1_1, rfl, ⟨hc1_1, hs1_1⟩⟩ := hr1
 refine W_seq_k fun K1 k1 => ?_
 refine W_region [3, 4] rfl ?_
 have hI0_ := hI
 refine Ops_to (R_box rfl) rfl rfl ?_
 rintro _ w2_ ⟨b2_, rfl, hb2_, hB2_, hF2_⟩
 replace hI := hI.fr0 hF2_
 have ht2_ : Tok G _ b2_ 85 ([vi x1.label_, .slice A1_1 x1.data_.length c1_1]) := ⟨hB2_.to rfl, Out.ge hI0_.st (Nat.le_of_eq hb2_.symm)⟩
 have hge_b2_ : w.heap.size ≤ b2_ := hb2_ ▸ hI0_.size
 clear hB2_ hb2_ hI0_ hF2_
 refine Ops_step (R_assign rfl) rfl rfl ?_
 refine Ops_nil ?_
 refine then_n (k1 _ _ ?_)
 clear k1 K1
 refine W_seq_k fun K3 k3 => ?_
 refine W_drawF [5, 6, 7, 8, 9, 10, 11, 12, 13, 4] [(0, true), (1, true), (2, true), (5, true), (6, true), (3, false), (4, false), (7, false), (8, false), (9, true)] TJtC.hm rfl (by kernel_rfl) fun ops4_ w4_ hops4_ hF4_ => ?_
 replace hI := hI.fr0 hF4_
 replace ht2_ := ht2_.fr0 hF4_
 clear hF4_
 refine HSp (R_move rfl) rfl rfl (HSp (R_fieldAddr fo85_0 rfl) rfl rfl ?_)
 refine HS_loadB (v := vi x1.label_) ag3 rfl ht2_.blk rfl rfl rfl ?_
 refine HSp (R_fieldAddr fo85_1 rfl) rfl rfl ?_
 refine HS_loadB (v := .slice A1_1 x1.data_.length c1_1) ag29 rfl ht2_.blk rfl rfl rfl ?_
 refine HS_to [6] _ rfl (by rw [hops4_]; kernel_rfl) (R_buildSlice el116 zr3 (by decide) (by decide) rfl rfl) rfl rfl ?_
 rintro _ w5_ ⟨b5_, rfl, hb5_, hB5_, hF5_⟩
 have ho5_ : OwnS w.heap.size 3 Gh.no G _ (some ⟨b5_, 0, none⟩) 2 ([x0, x1.label_] : List Int) := OwnS.ofBlk hI.st hb5_ hB5_ (all2_sc' _) rfl (by have := hI.size; omega) (by show 2 ≤ maxLen; decide)
 replace hI := hI.fr0 hF5_
 replace ht2_ := ht2_.fr0 hF5_
 clear hF5_ hB5_
 refine ⟨⟨(ht2_.blk.at_ rfl), trivial⟩, ?_⟩
 refine Exists.elim (ho5_.lend hI.st (Le.no _)) fun Hb6_0_ hb6_0_ => ?_
 refine HS_call [6] _ rfl (by rw [hops4_]; kernel_rfl) (C_func bd64 rfl) rfl rfl ?_
 refine (octet_Put_ok (x0 := []) (x1 := ([x0, x1.label_] : List Int)) hb6_0_.1 (hg.up (hI.le.trans hb6_0_.2.1)) (Nat.le_refl 0) Sl.nil (Nat.le_refl _) hb6_0_.2.2 h).mono ?_
 rintro _ w6_ ⟨A6_0, c6_0, r6_0, L6_, H6_, rfl, hI6_, ho6_0, h⟩
 refine Exists.elim (hI.callB hb6_0_.2.1 hI6_ (by simp)) fun L60_ h6_ => Exists.elim h6_ fun H60_ h6_ => ?_
 have hz6_ := hI.size
 replace hI := h6_.1
 have u6_ := h6_.2.1
 have hl6_ := h6_.2.2.1
 have hh6_ := h6_.2.2.2
 clear h6_
 replace hs1_1 := hs1_1.up u6_.hh
 replace ht2_ := ht2_.up u6_ (by simp)
 replace ho6_0 := OwnS.backS ho6_0 hz6_ hh6_
 clear hI6_ u6_ hl6_
 refine ⟨_, rfl, ⟨(ht2_.blk.at_ rfl), trivial⟩, ?_⟩
 refine Exists.elim (ho6_0.freeze hI) fun L7_ h7_ => Exists.elim h7_ fun H7_ h7_ => ?_
 replace hI := h7_.1
 have u7_ := h7_.2.1
 have hs7_ := h7_.2.2.1 (Le.no _)
 have hc7_ := ho6_0.cap
 replace hs1_1 := hs1_1.up u7_.hh
 replace ht2_ := ht2_.up u7_ (ht2_.sep ho6_0 (by decide))
 clear h7_ u7_ ho6_0
 refine HS_call [] _ rfl (by rw [hops4_]; kernel_rfl) (C_func bd65 rfl) rfl rfl ?_
 refine (octet_PutBytes_ok (x0 := r6_0) (x1 := x1.data_) hI.st (hg.up hI.le) hc7_ (hs7_.up hI.sub) hc1_1 hs1_1 h).mono ?_
 rintro _ w8_ ⟨A8_0, c8_0, r8_0, L8_, H8_, rfl, hI8_, ho8_0, h⟩
 refine Exists.elim (hI.call hI8_ (by simp)) fun L80_ h8_ => ?_
 have hz8_ := hI.size
 replace hI := h8_.1
 have u8_ := h8_.2.1
 have hl8_ := h8_.2.2
 clear h8_
 replace ht2_ := ht2_.up u8_ (by simp)
 replace ho8_0 := OwnS.backS ho8_0 hz8_ (Le.refl _)
 clear hI8_ u8_ hl8_
 refine ⟨_, rfl, trivial, ?_⟩
 refine Exists.elim (ho8_0.freeze hI) fun L9_ h9_ => Exists.elim h9_ fun H9_ h9_ => ?_
 replace hI := h9_.1
 have u9_ := h9_.2.1
 have hs9_ := h9_.2.2.1 (Le.no _)
 have hc9_ := ho8_0.cap
 replace ht2_ := ht2_.up u9_ (ht2_.sep ho8_0 (by decide))
 clear h9_ u9_ ho8_0
 refine HS_call [] _ rfl (by rw [hops4_]; kernel_rfl) (C_func bd63 rfl) rfl rfl ?_
 refine (journal_seal_ok (x0 := r8_0) hI.st (hg.up hI.le) hc9_ (hs9_.up hI.sub) h).mono ?_
 rintro _ w10_ ⟨A10_0, c10_0, r10_0, L10_, H10_, rfl, hI10_, ho10_0, h⟩
 refine Exists.elim (hI.call hI10_ (by simp)) fun L100_ h10_ => ?_
 have hz10_ := hI.size
 replace hI := h10_.1
 have u10_ := h10_.2.1
 have hl10_ := h10_.2.2
 clear h10_
 replace ho10_0 := OwnS.backS ho10_0 hz10_ (Le.refl _)
 clear hI10_ u10_ hl10_
 refine ⟨_, rfl, trivial, ?_⟩
 refine HSp (R_assign rfl) rfl rfl ?_
 refine HS_nil ?_
 clear hops4_
 refine then_n (k3 _ _ ?_)
 clear k3 K3
 refine W_keepB [4] fun B_ b_ => ?_
 simp only [e_, Nat.reduceAdd, Nat.reduceBEq] at b_
 subst b_
 refine W_ret ?_
 refine ⟨_, ⟨_, _, rfl, rfl, rfl⟩, ?_⟩
 exact ⟨A10_0, c10_0, r10_0, _, _, rfl, hI, (ho10_0.hl (Le.no _)), h⟩

theorem disk_Disk_burn_ok {G : Gh} {w : World} (hS : St G w) (hg : GL G) {d0 : Nat} {z0 : disk_Disk} {Ad0_1 : Option Addr} {cd0_1 : Nat} {Ad0_2 : Option Addr} {cd0_2 : Nat} {Ad0_3 : Option Addr} {cd0_3 : Nat} (htd0 : Tok G w d0 53 ([.slice Ad0_1 z0.files_.e0_.length cd0_1, .slice Ad0_2 z0.files_.e1_.length cd0_2, .slice Ad0_3 z0.files_.e2_.length cd0_3, vi z0.room_, .bool z0.off_, .bool z0.armed_, vi z0.left_])) (hcd0_1 : z0.files_.e0_.length ≤ cd0_1) (hsd0_1 : Sl G Ad0_1 z0.files_.e0_) (hcd0_2 : z0.files_.e1_.length ≤ cd0_2) (hsd0_2 : Sl G Ad0_2 z0.files_.e1_) (hcd0_3 : z0.files_.e2_.length ≤ cd0_3) (hsd0_3 : Sl G Ad0_3 z0.files_.e2_) {x1 : Int} {Q : Int → disk_Disk → Prop} (h : disk_Disk_burn z0 x1 Q) : Calls Try.prog 50 #[.pointer (some ⟨d0, 0, none⟩), vi x1] w fun e w2 => ∃ (r0 : Int) (y0 : disk_Disk) (Ay0_1 : Option Addr) (cy0_1 : Nat) (Ay0_2 : Option Addr) (cy0_2 : Nat) (Ay0_3 : Option Addr) (cy0_3 : Nat) (L H : Gh), e = .returned (vi r0) ∧ Inv [d0] G w L H w2 ∧ Tok H w2 d0 53 ([.slice Ay0_1 y0.files_.e0_.length cy0_1, .slice Ay0_2 y0.files_.e1_.length cy0_2, .slice Ay0_3 y0.files_.e2_.length cy0_3, vi y0.room_, .bool y0.off_, .bool y0.armed_, vi y0.left_]) ∧ y0.files_.e0_.length ≤ cy0_1 ∧ Sl H Ay0_1 y0.files_.e0_ ∧ y0.files_.e1_.length ≤ cy0_2 ∧ Sl H Ay0_2 y0.files_.e1_ ∧ y0.files_.e2_.length ≤ cy0_3 ∧ Sl H Ay0_3 y0.files_.e2_ ∧ Q r0 y0 := by
 unfold disk_Disk_burn at h
 have hI := Inv.start (M := [d0]) hS
 refine calls_W 42 Try.func50 rfl Try.ntmps50 rfl [.tmp 4] rfl ?_
 have hlt_d0 := htd0.blk.lt
 refine W_seq_k fun K1 k1 => ?_
 refine W_region [4] rfl (Ops_step (R_assign rfl) rfl rfl ?_)
 refine Ops_nil ?_
 refine then_n (k1 _ _ ?_)
 clear k1 K1
 refine W_seq_k fun K2 k2 => ?_
 refine W_block ?_
 refine W_seq_k fun K3 k3 => ?_
 refine W_region [6, 7, 8, 9, 10, 5] rfl (Ops_step (R_move rfl) rfl rfl (Ops_step (R_nilCheck rfl) rfl rfl (Ops_step (R_fieldAddr fo53_3 rfl) rfl rfl ?_)))
 refine Ops_step (R_loadB (v := .bool z0.armed_) ag4 rfl htd0.blk rfl) rfl rfl ?_
 refine Ops_step (R_not rfl) rfl rfl (Ops_step (R_assign rfl) rfl rfl ?_)
 refine Ops_nil ?_
 refine then_n (k3 _ _ ?_)
 clear k3 K3
 refine W_keepB [0, 1, 5] fun B_ b_ => ?_
 simp only [e_, Nat.reduceAdd, Nat.reduceBEq] at b_
 subst b_
 refine W_cond rfl (fun hc5_ => ?_) (fun hc5_ => ?_)
 ·
  replace h := h.1 hc5_
  refine W_seq_k fun K6 k6 => ?_
  refine W_region [11, 4] rfl (Ops_step (R_move rfl) rfl rfl (Ops_step (R_assign rfl) rfl rfl ?_))
  refine Ops_nil ?_
  refine then_n (k6 _ _ ?_)
  clear k6 K6
  refine W_ret ?_
  refine block_ret ?_
  refine then_ret ?_
  clear k2 K2
  refine ⟨_, ⟨_, _, rfl, rfl, rfl⟩, ?_⟩
  exact ⟨x1, z0, Ad0_1, cd0_1, Ad0_2, cd0_2, Ad0_3, cd0_3, _, _, rfl, hI, htd0, hcd0_1, hsd0_1, hcd0_2, hsd0_2, hcd0_3, hsd0_3, h⟩
 ·
  replace h := h.2 hc5_
  refine W_seq_k fun K7 k7 => ?_
  refine W_region [13, 14, 15, 16, 17, 18, 12] rfl (Ops_step (R_move rfl) rfl rfl (Ops_step (R_move rfl) rfl rfl (Ops_step (R_nilCheck rfl) rfl rfl (Ops_step (R_fieldAddr fo53_4 rfl) rfl rfl ?_))))
  refine Ops_step (R_loadB (v := vi z0.left_) ag3 rfl htd0.blk rfl) rfl rfl ?_
  refine Ops_step (R_lss rfl rfl) rfl rfl (Ops_step (R_assign rfl) rfl rfl ?_)
  refine Ops_nil ?_
  refine then_n (k7 _ _ ?_)
  clear k7 K7
  refine W_keepB [0, 1, 12] fun B_ b_ => ?_
  simp only [e_, Nat.reduceAdd, Nat.reduceBEq] at b_
  subst b_
  refine W_if rfl (fun hc9_ => ?_) (fun hc9_ => ?_)
  ·
   replace h := h.1 hc9_
   refine W_seq_k fun K10 k10 => ?_
   refine W_region [19, 20, 21, 22, 23, 24, 25, 26, none] rfl (Ops_step (R_move rfl) rfl rfl (Ops_step (R_nilCheck rfl) rfl rfl (Ops_step (R_fieldAddr fo53_4 rfl) rfl rfl ?_)))
   refine Ops_step (R_loadB (v := vi z0.left_) ag3 rfl htd0.blk rfl) rfl rfl ?_
   refine Ops_step (R_move rfl) rfl rfl ?_
   have hk11_ := h.1
   replace h := h.2
   refine Ops_step (R_sub rfl rfl (wI hk11_.1 hk11_.2)) rfl rfl (Ops_step (R_nilCheck rfl) rfl rfl (Ops_step (R_fieldAddr fo53_4 rfl) rfl rfl ?_))
   refine Ops_to0 (R_store sz3 rfl rfl htd0.blk (by show 6 < 7; decide) rfl) rfl ?_
   rintro _ w12_ ⟨hB12_, hF12_⟩
   replace hI := hI.tok hF12_ (out1 htd0.out) (mem1 (by simp))
   replace htd0 : Tok G _ d0 53 ([.slice Ad0_1 z0.files_.e0_.length cd0_1, .slice Ad0_2 z0.files_.e1_.length cd0_2, .slice Ad0_3 z0.files_.e2_.length cd0_3, vi z0.room_, .bool z0.off_, .bool z0.armed_, vi (z0.left_ - x1)]) := ⟨hB12_, htd0.out⟩
   clear hF12_ hB12_
   refine Ops_nil ?_
   refine then_n (k10 _ _ ?_)
   clear k10 K10
   refine W_keepB [1] fun B_ b_ => ?_
   simp only [e_, Nat.reduceAdd, Nat.reduceBEq] at b_
   subst b_
   refine W_seq_k fun K14 k14 => ?_
   refine W_region [27, 4] rfl (Ops_step (R_move rfl) rfl rfl (Ops_step (R_assign rfl) rfl rfl ?_))
   refine Ops_nil ?_
   refine then_n (k14 _ _ ?_)
   clear k14 K14
   refine W_ret ?_
   refine block_ret ?_
   refine then_ret ?_
   clear k2 K2
   refine ⟨_, ⟨_, _, rfl, rfl, rfl⟩, ?_⟩
   exact ⟨x1, (disk_Disk.mk z0.files_ z0.room_ z0.off_ z0.armed_ (z0.left_ - x1)), Ad0_1, cd0_1, Ad0_2, cd0_2, Ad0_3, cd0_3, _, _, rfl, hI, htd0, hcd0_1, hsd0_1, hcd0_2, hsd0_2, hcd0_3, hsd0_3, h⟩
  ·
   replace h := h.2 hc9_
   refine W_skip ?_
   refine block_n ?_
   refine then_n (k2 _ _ ?_)
   clear k2 K2
   refine W_seq_k fun K15 k15 => ?_
   refine W_region [28, 29, 30, 31, 1] rfl (Ops_step (R_move rfl) rfl rfl (Ops_step (R_nilCheck rfl) rfl rfl (Ops_step (R_fieldAddr fo53_4 rfl) rfl rfl ?_)))
   refine Ops_step (R_loadB (v := vi z0.left_) ag3 rfl htd0.blk rfl) rfl rfl ?_
   refine Ops_step (R_assign rfl) rfl rfl ?_
   refine Ops_nil ?_
   refine then_n (k15 _ _ ?_)
   clear k15 K15
   refine W_seq_k fun K16 k16 => ?_
   refine W_region [32, 33, 34, 35, 36, none, 37, 38, none, 39, 40, none] rfl (Ops_step (R_move rfl) rfl rfl (Ops_step (R_move rfl) rfl rfl (Ops_step (R_move rfl) rfl rfl (Ops_step (R_nilCheck rfl) rfl rfl ?_))))
   refine Ops_step (R_fieldAddr fo53_2 rfl) rfl rfl ?_
   refine Ops_to0 (R_store sz4 rfl rfl htd0.blk (by show 4 < 7; decide) rfl) rfl ?_
   rintro _ w17_ ⟨hB17_, hF17_⟩
   replace hI := hI.tok hF17_ (out1 htd0.out) (mem1 (by simp))
   replace htd0 : Tok G _ d0 53 ([.slice Ad0_1 z0.files_.e0_.length cd0_1, .slice Ad0_2 z0.files_.e1_.length cd0_2, .slice Ad0_3 z0.files_.e2_.length cd0_3, vi z0.room_, .bool true, .bool z0.armed_, vi z0.left_]) := ⟨hB17_, htd0.out⟩
   clear hF17_ hB17_
   refine Ops_step (R_nilCheck rfl) rfl rfl (Ops_step (R_fieldAddr fo53_3 rfl) rfl rfl ?_)
   refine Ops_to0 (R_store sz4 rfl rfl htd0.blk (by show 5 < 7; decide) rfl) rfl ?_
   rintro _ w18_ ⟨hB18_, hF18_⟩
   replace hI := hI.tok hF18_ (out1 htd0.out) (mem1 (by simp))
   replace htd0 : Tok G _ d0 53 ([.slice Ad0_1 z0.files_.e0_.length cd0_1, .slice Ad0_2 z0.files_.e1_.length cd0_2, .slice Ad0_3 z0.files_.e2_.length cd0_3, vi z0.room_, .bool true, .bool false, vi z0.left_]) := ⟨hB18_, htd0.out⟩
   clear hF18_ hB18_
   refine Ops_step (R_nilCheck rfl) rfl rfl (Ops_step (R_fieldAddr fo53_4 rfl) rfl rfl ?_)
   refine Ops_to0 (R_store sz3 rfl rfl htd0.blk (by show 6 < 7; decide) rfl) rfl ?_
   rintro _ w19_ ⟨hB19_, hF19_⟩
   replace hI := hI.tok hF19_ (out1 htd0.out) (mem1 (by simp))
   replace htd0 : Tok G _ d0 53 ([.slice Ad0_1 z0.files_.e0_.length cd0_1, .slice Ad0_2 z0.files_.e1_.length cd0_2, .slice Ad0_3 z0.files_.e2_.length cd0_3, vi z0.room_, .bool true, .bool false, vi 0]) := ⟨hB19_, htd0.out⟩
   clear hF19_ hB19_
   refine Ops_nil ?_
   refine then_n (k16 _ _ ?_)
   clear k16 K16
   refine W_keepB [1] fun B_ b_ => ?_
   simp only [e_, Nat.reduceAdd, Nat.reduceBEq] at b_
   subst b_
   refine W_seq_k fun K21 k21 => ?_
   refine W_region [41, 4] rfl (Ops_step (R_move rfl) rfl rfl (Ops_step (R_assign rfl) rfl rfl ?_))
   refine Ops_nil ?_
   refine then_n (k21 _ _ ?_)
   clear k21 K21
   refine W_ret ?_
   refine ⟨_, ⟨_, _, rfl, rfl, rfl⟩, ?_⟩
   exact ⟨z0.left_, (disk_Disk.mk z0.files_ z0.room_ true false 0), Ad0_1, cd0_1, Ad0_2, cd0_2, Ad0_3, cd0_3, _, _, rfl, hI, htd0, hcd0_1, hsd0_1, hcd0_2, hsd0_2, hcd0_3, hsd0_3, h⟩

theorem disk_Disk_done_ok {G : Gh} {w : World} (hS : St G w) (hg : GL G) {d0 : Nat} {z0 : disk_Disk} {Ad0_1 : Option Addr} {cd0_1 : Nat} {Ad0_2 : Option Addr} {cd0_2 : Nat} {Ad0_3 : Option Addr} {cd0_3 : Nat} (htd0 : Tok G w d0 53 ([.slice Ad0_1 z0.files_.e0_.length cd0_1, .slice Ad0_2 z0.files_.e1_.length cd0_2, .slice Ad0_3 z0.files_.e2_.length cd0_3, vi z0.room_, .bool z0.off_, .bool z0.armed_, vi z0.left_])) (hcd0_1 : z0.files_.e0_.length ≤ cd0_1) (hsd0_1 : Sl G Ad0_1 z0.files_.e0_) (hcd0_2 : z0.files_.e1_.length ≤ cd0_2) (hsd0_2 : Sl G Ad0_2 z0.files_.e1_) (hcd0_3 : z0.files_.e2_.length ≤ cd0_3) (hsd0_3 : Sl G Ad0_3 z0.files_.e2_) {Q : Int → Prop} (h : disk_Disk_done z0 Q) : Calls Try.prog 51 #[.pointer (some ⟨d0, 0, none⟩)] w fun e w2 => ∃ (r0 : Int) (L H : Gh), e = .returned (vi r0) ∧ Inv [] G w L H w2 ∧ Q r0 := by
 unfold disk_Disk_done at h
 have hI := Inv.start (M := []) hS
 refine calls_W 7 Try.func51 rfl Try.ntmps51 rfl [.tmp 2] rfl ?_
 have hlt_d0 := htd0.blk.lt
 refine W_seq_k fun K1 k1 => ?_
 refine W_region [2] rfl (Ops_step (R_assign rfl) rfl rfl ?_)
 refine Ops_nil ?_
 refine then_n (k1 _ _ ?_)
 clear k1 K1
 refine W_seq_k fun K2 k2 => ?_
 refine W_seq_k fun K3 k3 => ?_
 refine W_region [3, 4, 5, 6] rfl (Ops_step (R_move rfl) rfl rfl (Ops_step (R_nilCheck rfl) rfl rfl (Ops_step (R_fieldAddr fo53_2 rfl) rfl rfl ?_)))
 refine Ops_step (R_loadB (v := .bool z0.off_) ag4 rfl htd0.blk rfl) rfl rfl ?_
 refine Ops_nil ?_
 refine then_n (k3 _ _ ?_)
 clear k3 K3
 refine W_cond rfl (fun hc4_ => ?_) (fun hc4_ => ?_)
 ·
  replace h := h.1 hc4_
  refine W_seq_k fun K5 k5 => ?_
  refine W_region [2] rfl (Ops_step (R_assign rfl) rfl rfl ?_)
  refine Ops_nil ?_
  refine then_n (k5 _ _ ?_)
  clear k5 K5
  refine W_ret ?_
  refine then_ret ?_
  clear k2 K2
  refine ⟨_, ⟨_, _, rfl, rfl, rfl⟩, ?_⟩
  exact ⟨50, _, _, rfl, hI, h⟩
 ·
  replace h := h.2 hc4_
  refine W_skip ?_
  refine then_n (k2 _ _ ?_)
  clear k2 K2
  refine W_keepB [] fun B_ b_ => ?_
  simp only [e_, Nat.reduceAdd, Nat.reduceBEq] at b_
  subst b_
  refine W_seq_k fun K7 k7 => ?_
  refine W_region [2] rfl (Ops_step (R_assign rfl) rfl rfl ?_)
  refine Ops_nil ?_
  refine then_n (k7 _ _ ?_)
  clear k7 K7
  refine W_ret ?_
  refine ⟨_, ⟨_, _, rfl, rfl, rfl⟩, ?_⟩
  exact ⟨0, _, _, rfl, hI, h⟩

theorem disk_Disk_Wipe_ok {G : Gh} {w : World} (hS : St G w) (hg : GL G) {d0 : Nat} {z0 : disk_Disk} {Ad0_1 : Option Addr} {cd0_1 : Nat} {Ad0_2 : Option Addr} {cd0_2 : Nat} {Ad0_3 : Option Addr} {cd0_3 : Nat} (htd0 : Tok G w d0 53 ([.slice Ad0_1 z0.files_.e0_.length cd0_1, .slice Ad0_2 z0.files_.e1_.length cd0_2, .slice Ad0_3 z0.files_.e2_.length cd0_3, vi z0.room_, .bool z0.off_, .bool z0.armed_, vi z0.left_])) (hcd0_1 : z0.files_.e0_.length ≤ cd0_1) (hsd0_1 : Sl G Ad0_1 z0.files_.e0_) (hcd0_2 : z0.files_.e1_.length ≤ cd0_2) (hsd0_2 : Sl G Ad0_2 z0.files_.e1_) (hcd0_3 : z0.files_.e2_.length ≤ cd0_3) (hsd0_3 : Sl G Ad0_3 z0.files_.e2_) {x1 : Int} {Q : Int → disk_Disk → Prop} (h : disk_Disk_Wipe z0 x1 Q) : Calls Try.prog 42 #[.pointer (some ⟨d0, 0, none⟩), vi x1] w fun e w2 => ∃ (r0 : Int) (y0 : disk_Disk) (Ay0_1 : Option Addr) (cy0_1 : Nat) (Ay0_2 : Option Addr) (cy0_2 : Nat) (Ay0_3 : Option Addr) (cy0_3 : Nat) (L H : Gh), e = .returned (vi r0) ∧ Inv [d0] G w L H w2 ∧ Tok H w2 d0 53 ([.slice Ay0_1 y0.files_.e0_.length cy0_1, .slice Ay0_2 y0.files_.e1_.length cy0_2, .slice Ay0_3 y0.files_.e2_.length cy0_3, vi y0.room_, .bool y0.off_, .bool y0.armed_, vi y0.left_]) ∧ y0.files_.e0_.length ≤ cy0_1 ∧ Sl H Ay0_1 y0.files_.e0_ ∧ y0.files_.e1_.length ≤ cy0_2 ∧ Sl H Ay0_2 y0.files_.e1_ ∧ y0.files_.e2_.length ≤ cy0_3 ∧ Sl H Ay0_3 y0.files_.e2_ ∧ Q r0 y0 := by
 unfold disk_Disk_Wipe at h
 have hI := Inv.start (M := [d0]) hS
 refine calls_W 22 Try.func42 rfl Try.ntmps42 rfl [.tmp 4] rfl ?_
 have hlt_d0 := htd0.blk.lt
 refine W_seq_k fun K1 k1 => ?_
 refine W_region [4] rfl (Ops_step (R_assign rfl) rfl rfl ?_)
 refine Ops_nil ?_
 refine then_n (k1 _ _ ?_)
 clear k1 K1
 refine W_seq_k fun K2 k2 => ?_
 refine W_seq_k fun K3 k3 => ?_
 refine W_region [6, 7, 8, 5] rfl (Ops_step (R_move rfl) rfl rfl (Ops_step (R_move rfl) rfl rfl ?_))
 refine Ops_call (C_func bd48 rfl) rfl rfl ?_
 refine (disk_Disk_able_ok (x1 := x1) (z0 := z0) hI.st (hg.up hI.le) htd0 hcd0_1 hsd0_1 hcd0_2 hsd0_2 hcd0_3 hsd0_3 h).mono ?_
 rintro _ w4_ ⟨r4_0, L4_, H4_, rfl, hI4_, h⟩
 refine Exists.elim (hI.call hI4_ (by simp)) fun L40_ h4_ => ?_
 have hz4_ := hI.size
 replace hI := h4_.1
 have u4_ := h4_.2.1
 have hl4_ := h4_.2.2
 clear h4_
 replace hsd0_1 := hsd0_1.up u4_.hh
 replace hsd0_2 := hsd0_2.up u4_.hh
 replace hsd0_3 := hsd0_3.up u4_.hh
 replace htd0 := htd0.up u4_ (by simp)
 clear hI4_ u4_ hl4_
 refine ⟨_, rfl, ?_⟩
 refine Ops_step (R_assign rfl) rfl rfl ?_
 refine Ops_nil ?_
 refine then_n (k3 _ _ ?_)
 clear k3 K3
 refine W_seq_k fun K5 k5 => ?_
 refine W_region [9, 10] rfl (Ops_step (R_move rfl) rfl rfl (Ops_step (R_neq rfl rfl) rfl rfl ?_))
 refine Ops_nil ?_
 refine then_n (k5 _ _ ?_)
 clear k5 K5
 refine W_if rfl (fun hc6_ => ?_) (fun hc6_ => ?_)
 ·
  replace h := h.1 hc6_
  refine W_seq_k fun K7 k7 => ?_
  refine W_region [11, 4] rfl (Ops_step (R_move rfl) rfl rfl (Ops_step (R_assign rfl) rfl rfl ?_))
  refine Ops_nil ?_
  refine then_n (k7 _ _ ?_)
  clear k7 K7
  refine W_keepB [4] fun B_ b_ => ?_
  simp only [e_, Nat.reduceAdd, Nat.reduceBEq] at b_
  subst b_
  refine W_ret ?_
  refine then_ret ?_
  clear k2 K2
  refine ⟨_, ⟨_, _, rfl, rfl, rfl⟩, ?_⟩
  exact ⟨r4_0, z0, Ad0_1, cd0_1, Ad0_2, cd0_2, Ad0_3, cd0_3, _, _, rfl, hI, htd0, hcd0_1, hsd0_1, hcd0_2, hsd0_2, hcd0_3, hsd0_3, h⟩
 ·
  replace h := h.2 hc6_
  refine W_skip ?_
  refine then_n (k2 _ _ ?_)
  clear k2 K2
  refine W_keepB [0, 1] fun B_ b_ => ?_
  simp only [e_, Nat.reduceAdd, Nat.reduceBEq] at b_
  subst b_
  refine ex_ h fun J10_ hr10_ h => ?_
  refine W_seq_join [0] [] (fun vals_ w2 => ∃ (yd0_10 : disk_Disk) (Ad0_10_1 : Option Addr) (cd0_10_1 : Nat) (Ad0_10_2 : Option Addr) (cd0_10_2 : Nat) (Ad0_10_3 : Option Addr) (cd0_10_3 : Nat) (L H : Gh), vals_ = [] ∧ J10_ yd0_10 ∧ Inv [d0] G w L H w2 ∧ Le L40_ L ∧ Le H4_ H ∧ Tok H w2 d0 53 ([.slice Ad0_10_1 yd0_10.files_.e0_.length cd0_10_1, .slice Ad0_10_2 yd0_10.files_.e1_.length cd0_10_2, .slice Ad0_10_3 yd0_10.files_.e2_.length cd0_10_3, vi yd0_10.room_, .bool yd0_10.off_, .bool yd0_10.armed_, vi yd0_10.left_]) ∧ yd0_10.files_.e0_.length ≤ cd0_10_1 ∧ Sl H Ad0_10_1 yd0_10.files_.e0_ ∧ yd0_10.files_.e1_.length ≤ cd0_10_2 ∧ Sl H Ad0_10_2 yd0_10.files_.e1_ ∧ yd0_10.files_.e2_.length ≤ cd0_10_3 ∧ Sl H Ad0_10_3 yd0_10.files_.e2_ ∧ True) (fun B_ b_ => ?_) (fun B_ b_ => ?_)
  ·
   simp only [e_, Nat.reduceAdd, Nat.reduceBEq] at b_
   subst b_
   clear hr10_
   have hll10_ := Le.refl L40_
   have hhh10_ := Le.refl H4_
   refine W_seq_k fun K11 k11 => ?_
   refine W_region [12, 13, 14] rfl (Ops_step (R_move rfl) rfl rfl ?_)
   refine Ops_call (C_func bd50 rfl) rfl rfl ?_
   refine (disk_Disk_burn_ok (x1 := 1) (z0 := z0) hI.st (hg.up hI.le) htd0 hcd0_1 hsd0_1 hcd0_2 hsd0_2 hcd0_3 hsd0_3 h).mono ?_
   rintro _ w12_ ⟨r12_0, y12_o0, A12_o0_1, c12_o0_1, A12_o0_2, c12_o0_2, A12_o0_3, c12_o0_3, L12_, H12_, rfl, hI12_, ht12_o0, hc12_o0_1, hs12_o0_1, hc12_o0_2, hs12_o0_2, hc12_o0_3, hs12_o0_3, h⟩
   refine Exists.elim (hI.call hI12_ (mem1 (by simp))) fun L120_ h12_ => ?_
   have hz12_ := hI.size
   replace hI := h12_.1
   have u12_ := h12_.2.1
   have hl12_ := h12_.2.2
   clear h12_
   replace hsd0_1 := hsd0_1.up u12_.hh
   replace hsd0_2 := hsd0_2.up u12_.hh
   replace hsd0_3 := hsd0_3.up u12_.hh
   replace hll10_ := hll10_.trans u12_.ll
   replace hhh10_ := hhh10_.trans u12_.hh
   clear htd0
   clear hI12_ u12_ hl12_
   refine ⟨_, rfl, ?_⟩
   refine Ops_step (R_eql rfl rfl) rfl rfl ?_
   refine Ops_nil ?_
   refine then_n (k11 _ _ ?_)
   clear k11 K11
   refine W_if rfl (fun hc13_ => ?_) (fun hc13_ => ?_)
   ·
    replace h := h.1 hc13_
    refine W_region [15, 16, 17, 18, 19, none] rfl (Ops_step (R_move rfl) rfl rfl (Ops_step (R_move rfl) rfl rfl (Ops_step (R_nilCheck rfl) rfl rfl (Ops_step (R_fieldAddr fo53_0 rfl) rfl rfl ?_))))
    have hk14_ := h.1
    replace h := h.2
    refine split3 hk14_ (fun hi14_ => ?_) (fun hi14_ => ?_) (fun hi14_ => ?_)
    ·
     replace h := h.1 hi14_
     refine Ops_step (R_indexArrK Try.underlying51 sz29 rfl rfl hi14_ (by decide)) rfl rfl ?_
     refine Ops_to0 (R_store sz29 rfl rfl ht12_o0.blk (by show 0 < 7; decide) rfl) rfl ?_
     rintro _ w15_ ⟨hB15_, hF15_⟩
     replace hI := hI.tok hF15_ (out1 ht12_o0.out) (mem1 (by simp))
     replace ht12_o0 : Tok H12_ _ d0 53 ([.slice none 0 0, .slice A12_o0_2 y12_o0.files_.e1_.length c12_o0_2, .slice A12_o0_3 y12_o0.files_.e2_.length c12_o0_3, vi y12_o0.room_, .bool y12_o0.off_, .bool y12_o0.armed_, vi y12_o0.left_]) := ⟨hB15_, ht12_o0.out⟩
     clear hF15_ hB15_
     refine Ops_nil ?_
     refine then_n ?_
     exact ⟨_, rfl, ⟨(disk_Disk.mk (arr3_List_UInt8.mk [] y12_o0.files_.e1_ y12_o0.files_.e2_) y12_o0.room_ y12_o0.off_ y12_o0.armed_ y12_o0.left_), none, 0, A12_o0_2, c12_o0_2, A12_o0_3, c12_o0_3, _, _, rfl, h, hI, hll10_, hhh10_, ht12_o0, (Nat.le_refl 0), Sl.nil, hc12_o0_2, hs12_o0_2, hc12_o0_3, hs12_o0_3, trivial⟩, ⟨rfl, trivial⟩⟩
    ·
     replace h := h.2.1 hi14_
     refine Ops_step (R_indexArrK Try.underlying51 sz29 rfl rfl hi14_ (by decide)) rfl rfl ?_
     refine Ops_to0 (R_store sz29 rfl rfl ht12_o0.blk (by show 1 < 7; decide) rfl) rfl ?_
     rintro _ w16_ ⟨hB16_, hF16_⟩
     replace hI := hI.tok hF16_ (out1 ht12_o0.out) (mem1 (by simp))
     replace ht12_o0 : Tok H12_ _ d0 53 ([.slice A12_o0_1 y12_o0.files_.e0_.length c12_o0_1, .slice none 0 0, .slice A12_o0_3 y12_o0.files_.e2_.length c12_o0_3, vi y12_o0.room_, .bool y12_o0.off_, .bool y12_o0.armed_, vi y12_o0.left_]) := ⟨hB16_, ht12_o0.out⟩
     clear hF16_ hB16_
     refine Ops_nil ?_
     refine then_n ?_
     exact ⟨_, rfl, ⟨(disk_Disk.mk (arr3_List_UInt8.mk y12_o0.files_.e0_ [] y12_o0.files_.e2_) y12_o0.room_ y12_o0.off_ y12_o0.armed_ y12_o0.left_), A12_o0_1, c12_o0_1, none, 0, A12_o0_3, c12_o0_3, _, _, rfl, h, hI, hll10_, hhh10_, ht12_o0, hc12_o0_1, hs12_o0_1, (Nat.le_refl 0), Sl.nil, hc12_o0_3, hs12_o0_3, trivial⟩, ⟨rfl, trivial⟩⟩
    ·
     replace h := h.2.2 hi14_
     refine Ops_step (R_indexArrK Try.underlying51 sz29 rfl rfl hi14_ (by decide)) rfl rfl ?_
     refine Ops_to0 (R_store sz29 rfl rfl ht12_o0.blk (by show 2 < 7; decide) rfl) rfl ?_
     rintro _ w17_ ⟨hB17_, hF17_⟩
     replace hI := hI.tok hF17_ (out1 ht12_o0.out) (mem1 (by simp))
     replace ht12_o0 : Tok H12_ _ d0 53 ([.slice A12_o0_1 y12_o0.files_.e0_.length c12_o0_1, .slice A12_o0_2 y12_o0.files_.e1_.length c12_o0_2, .slice none 0 0, vi y12_o0.room_, .bool y12_o0.off_, .bool y12_o0.armed_, vi y12_o0.left_]) := ⟨hB17_, ht12_o0.out⟩
     clear hF17_ hB17_
     refine Ops_nil ?_
     refine then_n ?_
     exact ⟨_, rfl, ⟨(disk_Disk.mk (arr3_List_UInt8.mk y12_o0.files_.e0_ y12_o0.files_.e1_ []) y12_o0.room_ y12_o0.off_ y12_o0.armed_ y12_o0.left_), A12_o0_1, c12_o0_1, A12_o0_2, c12_o0_2, none, 0, _, _, rfl, h, hI, hll10_, hhh10_, ht12_o0, hc12_o0_1, hs12_o0_1, hc12_o0_2, hs12_o0_2, (Nat.le_refl 0), Sl.nil, trivial⟩, ⟨rfl, trivial⟩⟩
   ·
    replace h := h.2 hc13_
    refine W_skip ?_
    refine then_n ?_
    exact ⟨_, rfl, ⟨y12_o0, A12_o0_1, c12_o0_1, A12_o0_2, c12_o0_2, A12_o0_3, c12_o0_3, _, _, rfl, h, hI, hll10_, hhh10_, ht12_o0, hc12_o0_1, hs12_o0_1, hc12_o0_2, hs12_o0_2, hc12_o0_3, hs12_o0_3, trivial⟩, ⟨rfl, trivial⟩⟩
  ·
   simp only [e_, Nat.reduceAdd, Nat.reduceBEq] at b_
   subst b_
   clear h
   rintro _ w10_ ⟨yd0_10, Ad0_10_1, cd0_10_1, Ad0_10_2, cd0_10_2, Ad0_10_3, cd0_10_3, L10_, H10_, rfl, hJ10_, hI10_, hll10_, hhh10_, htd0_10, hcd0_10_1, hsd0_10_1, hcd0_10_2, hsd0_10_2, hcd0_10_3, hsd0_10_3, -⟩
   replace hI := hI10_
   clear hI10_
   have h := hr10_ yd0_10 hJ10_
   clear hr10_ hJ10_
   refine W_seq_k fun K18 k18 => ?_
   refine W_region [20, 21, 4] rfl (Ops_step (R_move rfl) rfl rfl ?_)
   refine Ops_call (C_func bd51 rfl) rfl rfl ?_
   refine (disk_Disk_done_ok (z0 := yd0_10) hI.st (hg.up hI.le) htd0_10 hcd0_10_1 hsd0_10_1 hcd0_10_2 hsd0_10_2 hcd0_10_3 hsd0_10_3 h).mono ?_
   rintro _ w19_ ⟨r19_0, L19_, H19_, rfl, hI19_, h⟩
   refine Exists.elim (hI.call hI19_ (by simp)) fun L190_ h19_ => ?_
   have hz19_ := hI.size
   replace hI := h19_.1
   have u19_ := h19_.2.1
   have hl19_ := h19_.2.2
   clear h19_
   replace htd0_10 := htd0_10.up u19_ (by simp)
   replace hsd0_10_1 := hsd0_10_1.up u19_.hh
   replace hsd0_10_2 := hsd0_10_2.up u19_.hh
   replace hsd0_10_3 := hsd0_10_3.up u19_.hh
   clear hI19_ u19_ hl19_
   refine ⟨_, rfl, ?_⟩
   refine Ops_step (R_assign rfl) rfl rfl ?_
   refine Ops_nil ?_
   refine then_n (k18 _ _ ?_)
   clear k18 K18
   refine W_ret ?_
   refine ⟨_, ⟨_, _, rfl, rfl, rfl⟩, ?_⟩
   exact ⟨r19_0, yd0_10, Ad0_10_1, cd0_10_1, Ad0_10_2, cd0_10_2, Ad0_10_3, cd0_10_3, _, _, rfl, hI, htd0_10, hcd0_10_1, hsd0_10_1, hcd0_10_2, hsd0_10_2, hcd0_10_3, hsd0_10_3, h⟩

theorem disk_Disk_Used_ok {G : Gh} {w : World} (hS : St G w) (hg : GL G) {d0 : Nat} {z0 : disk_Disk} {Ad0_1 : Option Addr} {cd0_1 : Nat} {Ad0_2 : Option Addr} {cd0_2 : Nat} {Ad0_3 : Option Addr} {cd0_3 : Nat} (htd0 : Tok G w d0 53 ([.slice Ad0_1 z0.files_.e0_.length cd0_1, .slice Ad0_2 z0.files_.e1_.length cd0_2, .slice Ad0_3 z0.files_.e2_.length cd0_3, vi z0.room_, .bool z0.off_, .bool z0.armed_, vi z0.left_])) (hcd0_1 : z0.files_.e0_.length ≤ cd0_1) (hsd0_1 : Sl G Ad0_1 z0.files_.e0_) (hcd0_2 : z0.files_.e1_.length ≤ cd0_2) (hsd0_2 : Sl G Ad0_2 z0.files_.e1_) (hcd0_3 : z0.files_.e2_.length ≤ cd0_3) (hsd0_3 : Sl G Ad0_3 z0.files_.e2_) {Q : Int → Prop} (h : disk_Disk_Used z0 Q) : Calls Try.prog 49 #[.pointer (some ⟨d0, 0, none⟩)] w fun e w2 => ∃ (r0 : Int) (L H : Gh), e = .returned (vi r0) ∧ Inv [] G w L H w2 ∧ Q r0 := by
 unfold disk_Disk_Used at h
 have hI := Inv.start (M := []) hS
 refine calls_W 21 Try.func49 rfl Try.ntmps49 rfl [.tmp 2] rfl ?_
 have hlt_d0 := htd0.blk.lt
 refine W_seq_k fun K1 k1 => ?_
 refine W_region [2] rfl (Ops_step (R_assign rfl) rfl rfl ?_)
 refine Ops_nil ?_
 refine then_n (k1 _ _ ?_)
 clear k1 K1
 refine W_seq_k fun K2 k2 => ?_
 refine W_seq_k fun K3 k3 => ?_
 refine W_region [6, 7] rfl (Ops_step (R_move rfl) rfl rfl (Ops_step (R_ptrNil Try.underlying25 rfl rfl) rfl rfl ?_))
 refine Ops_nil ?_
 refine then_n (k3 _ _ ?_)
 clear k3 K3
 refine W_cond_false rfl ?_
 refine W_skip ?_
 refine then_n (k2 _ _ ?_)
 clear k2 K2
 refine W_seq_k fun K4 k4 => ?_
 refine W_region [3] rfl (Ops_step (R_assign rfl) rfl rfl ?_)
 refine Ops_nil ?_
 refine then_n (k4 _ _ ?_)
 clear k4 K4
 refine ex_ h fun J5_ hr5_ h => ?_
 refine W_seq_join [] [3] (fun vals_ w2 => ∃ (x3_5 : Int) (L H : Gh), vals_ = [vi x3_5] ∧ J5_ x3_5 ∧ Inv [] G w L H w2 ∧ Le Gh.no L ∧ Le G H ∧ Tok H w2 d0 53 ([.slice Ad0_1 z0.files_.e0_.length cd0_1, .slice Ad0_2 z0.files_.e1_.length cd0_2, .slice Ad0_3 z0.files_.e2_.length cd0_3, vi z0.room_, .bool z0.off_, .bool z0.armed_, vi z0.left_]) ∧ True) (fun B_ b_ => ?_) (fun B_ b_ => ?_)
 ·
  simp only [e_, Nat.reduceAdd, Nat.reduceBEq] at b_
  subst b_
  clear hr5_
  have hll5_ := Le.refl Gh.no
  have hhh5_ := Le.refl G
  refine W_seq_k fun K6 k6 => ?_
  refine W_region [8, 9, 10, 11, 12] rfl (Ops_step (R_move rfl) rfl rfl (Ops_step (R_nilCheck rfl) rfl rfl (Ops_step (R_fieldAddr fo53_0 rfl) rfl rfl (Ops_step (R_loadN ag51 sz51 rfl htd0.blk (Nat.le_of_ble_eq_true rfl)) rfl rfl ?_))))
  refine Ops_step (R_move rfl) rfl rfl ?_
  refine Ops_nil ?_
  refine then_n (k6 _ _ ?_)
  clear k6 K6
  refine W_keepB [3, 11, 12] fun B_ b_ => ?_
  simp only [e_, Nat.reduceAdd, Nat.reduceBEq] at b_
  subst b_
  refine W_block ?_
  refine Exists.elim h fun I8_ h => Exists.elim h fun n8_ h => ?_
  have h0_ := h.1
  have hs8_ := h.2
  clear h
  refine W_loopB [11] [3, 12] (fun m vals_ w2 => ∃ (x3_8 : Int) (x12_8 : Int) (L H : Gh), vals_ = [vi x3_8, vi x12_8] ∧ I8_ m x3_8 x12_8 ∧ Inv [] G w L H w2 ∧ Le Gh.no L ∧ Le G H ∧ Tok H w2 d0 53 ([.slice Ad0_1 z0.files_.e0_.length cd0_1, .slice Ad0_2 z0.files_.e1_.length cd0_2, .slice Ad0_3 z0.files_.e2_.length cd0_3, vi z0.room_, .bool z0.off_, .bool z0.armed_, vi z0.left_]) ∧ True) n8_ _ rfl ⟨0, 0, _, _, rfl, h0_, hI, Le.refl _, Le.refl _, htd0, trivial⟩ fun B_ b_ => ?_
  clear h0_
  simp only [e_, Nat.reduceAdd, Nat.reduceBEq] at b_
  subst b_
  clear htd0
  rintro m8_ _ w8_ ⟨x3_8, x12_8, L8_, H8_, rfl, hJ8_, hI8_, hll8_, hhh8_, htd0, -⟩
  replace hI := hI8_
  clear hI8_
  have h := hs8_ m8_ x3_8 x12_8 hJ8_
  clear hs8_ hJ8_
  replace hsd0_1 := hsd0_1.up hhh8_
  replace hsd0_2 := hsd0_2.up hhh8_
  replace hsd0_3 := hsd0_3.up hhh8_
  replace hll5_ := hll5_.trans hll8_
  replace hhh5_ := hhh5_.trans hhh8_
  refine W_seq_k fun K9 k9 => ?_
  refine W_region [13] rfl (Ops_step (R_lss rfl rfl) rfl rfl ?_)
  refine Ops_nil ?_
  refine then_n (k9 _ _ ?_)
  clear k9 K9
  refine W_seq_k fun K10 k10 => ?_
  refine W_if rfl (fun hc11_ => ?_) (fun hc11_ => ?_)
  ·
   replace h := h.1 hc11_
   refine W_skip ?_
   refine then_n (k10 _ _ ?_)
   clear k10 K10
   refine W_seq_k fun K12 k12 => ?_
   refine W_block ?_
   refine W_seq_k fun K13 k13 => ?_
   refine W_region [14, 5] rfl ?_
   have hk14_ := h.1
   replace h := h.2
   refine split3 hk14_ (fun hi14_ => ?_) (fun hi14_ => ?_) (fun hi14_ => ?_)
   ·
    replace h := h.1 hi14_
    refine Ops_step (R_indexK Try.underlying51 sz29 ag29 rfl rfl hi14_ (by decide) rfl) rfl rfl (Ops_step (R_assign rfl) rfl rfl ?_)
    refine Ops_nil ?_
    refine then_n (k13 _ _ ?_)
    clear k13 K13
    refine W_region [15, 16, 17, 18, 3] rfl (Ops_step (R_move rfl) rfl rfl (Ops_step (R_move rfl) rfl rfl (Ops_step (R_len Try.underlying29 rfl rfl) rfl rfl ?_)))
    have hk15_ := h.1
    replace h := h.2
    refine Ops_step (R_add rfl rfl (wI hk15_.1 hk15_.2)) rfl rfl (Ops_step (R_assign rfl) rfl rfl ?_)
    refine Ops_nil ?_
    refine block_n ?_
    refine then_n (k12 _ _ ?_)
    clear k12 K12
    refine W_keepB [3, 11, 12] fun B_ b_ => ?_
    simp only [e_, Nat.reduceAdd, Nat.reduceBEq] at b_
    subst b_
    refine W_region [19, 12] rfl ?_
    have hk17_ := h.1
    replace h := h.2
    refine Ops_step (R_add rfl rfl (wI hk17_.1 hk17_.2)) rfl rfl (Ops_step (R_move rfl) rfl rfl ?_)
    refine Ops_nil ?_
    refine then_n ?_
    exact h.elim fun m_ h => ⟨m_, _, h.1, rfl, ⟨(x3_8 + (z0.files_.e0_.length : Int)), (x12_8 + 1), _, _, rfl, h.2, hI, hll8_, hhh8_, htd0, trivial⟩, ⟨rfl, trivial⟩⟩
   ·
    replace h := h.2.1 hi14_
    refine Ops_step (R_indexK Try.underlying51 sz29 ag29 rfl rfl hi14_ (by decide) rfl) rfl rfl (Ops_step (R_assign rfl) rfl rfl ?_)
    refine Ops_nil ?_
    refine then_n (k13 _ _ ?_)
    clear k13 K13
    refine W_region [15, 16, 17, 18, 3] rfl (Ops_step (R_move rfl) rfl rfl (Ops_step (R_move rfl) rfl rfl (Ops_step (R_len Try.underlying29 rfl rfl) rfl rfl ?_)))
    have hk18_ := h.1
    replace h := h.2
    refine Ops_step (R_add rfl rfl (wI hk18_.1 hk18_.2)) rfl rfl (Ops_step (R_assign rfl) rfl rfl ?_)
    refine Ops_nil ?_
    refine block_n ?_
    refine then_n (k12 _ _ ?_)
    clear k12 K12
    refine W_keepB [3, 11, 12] fun B_ b_ => ?_
    simp only [e_, Nat.reduceAdd, Nat.reduceBEq] at b_
    subst b_
    refine W_region [19, 12] rfl ?_
    have hk20_ := h.1
    replace h := h.2
    refine Ops_step (R_add rfl rfl (wI hk20_.1 hk20_.2)) rfl rfl (Ops_step (R_move rfl) rfl rfl ?_)
    refine Ops_nil ?_
    refine then_n ?_
    exact h.elim fun m_ h => ⟨m_, _, h.1, rfl, ⟨(x3_8 + (z0.files_.e1_.length : Int)), (x12_8 + 1), _, _, rfl, h.2, hI, hll8_, hhh8_, htd0, trivial⟩, ⟨rfl, trivial⟩⟩
   ·
    replace h := h.2.2 hi14_
    refine Ops_step (R_indexK Try.underlying51 sz29 ag29 rfl rfl hi14_ (by decide) rfl) rfl rfl (Ops_step (R_assign rfl) rfl rfl ?_)
    refine Ops_nil ?_
    refine then_n (k13 _ _ ?_)
    clear k13 K13
    refine W_region [15, 16, 17, 18, 3] rfl (Ops_step (R_move rfl) rfl rfl (Ops_step (R_move rfl) rfl rfl (Ops_step (R_len Try.underlying29 rfl rfl) rfl rfl ?_)))
    have hk21_ := h.1
    replace h := h.2
    refine Ops_step (R_add rfl rfl (wI hk21_.1 hk21_.2)) rfl rfl (Ops_step (R_assign rfl) rfl rfl ?_)
    refine Ops_nil ?_
    refine block_n ?_
    refine then_n (k12 _ _ ?_)
    clear k12 K12
    refine W_keepB [3, 11, 12] fun B_ b_ => ?_
    simp only [e_, Nat.reduceAdd, Nat.reduceBEq] at b_
    subst b_
    refine W_region [19, 12] rfl ?_
    have hk23_ := h.1
    replace h := h.2
    refine Ops_step (R_add rfl rfl (wI hk23_.1 hk23_.2)) rfl rfl (Ops_step (R_move rfl) rfl rfl ?_)
    refine Ops_nil ?_
    refine then_n ?_
    exact h.elim fun m_ h => ⟨m_, _, h.1, rfl, ⟨(x3_8 + (z0.files_.e2_.length : Int)), (x12_8 + 1), _, _, rfl, h.2, hI, hll8_, hhh8_, htd0, trivial⟩, ⟨rfl, trivial⟩⟩
  ·
   replace h := h.2 hc11_
   refine W_exit ?_
   refine then_exit ?_
   clear k10 K10
   refine then_exit ?_
   refine block_exit ?_
   refine then_n ?_
   exact ⟨_, rfl, ⟨x3_8, _, _, rfl, h, hI, hll5_, hhh5_, htd0, trivial⟩, trivial⟩
 ·
  simp only [e_, Nat.reduceAdd, Nat.reduceBEq] at b_
  subst b_
  clear h
  clear htd0
  rintro _ w5_ ⟨x3_5, L5_, H5_, rfl, hJ5_, hI5_, hll5_, hhh5_, htd0, -⟩
  replace hI := hI5_
  clear hI5_
  have h := hr5_ x3_5 hJ5_
  clear hr5_ hJ5_
  replace hsd0_1 := hsd0_1.up hhh5_
  replace hsd0_2 := hsd0_2.up hhh5_
  replace hsd0_3 := hsd0_3.up hhh5_
  refine W_seq_k fun K24 k24 => ?_
  refine W_region [20, 2] rfl (Ops_step (R_move rfl) rfl rfl (Ops_step (R_assign rfl) rfl rfl ?_))
  refine Ops_nil ?_
  refine then_n (k24 _ _ ?_)
  clear k24 K24
  refine W_ret ?_
  refine ⟨_, ⟨_, _, rfl, rfl, rfl⟩, ?_⟩
  exact ⟨x3_5, _, _, rfl, hI, h⟩

theorem disk_Disk_Append_ok {G : Gh} {w : World} (hS : St G w) (hg : GL G) {d0 : Nat} {z0 : disk_Disk} {Ad0_1 : Option Addr} {cd0_1 : Nat} {Ad0_2 : Option Addr} {cd0_2 : Nat} {Ad0_3 : Option Addr} {cd0_3 : Nat} (htd0 : Tok G w d0 53 ([.slice Ad0_1 z0.files_.e0_.length cd0_1, .slice Ad0_2 z0.files_.e1_.length cd0_2, .slice Ad0_3 z0.files_.e2_.length cd0_3, vi z0.room_, .bool z0.off_, .bool z0.armed_, vi z0.left_])) (hcd0_1 : z0.files_.e0_.length ≤ cd0_1) (hsd0_1 : Sl G Ad0_1 z0.files_.e0_) (hcd0_2 : z0.files_.e1_.length ≤ cd0_2) (hsd0_2 : Sl G Ad0_2 z0.files_.e1_) (hcd0_3 : z0.files_.e2_.length ≤ cd0_3) (hsd0_3 : Sl G Ad0_3 z0.files_.e2_) {x1 : Int} {A2 : Option Addr} {c2 : Nat} {x2 : List UInt8} (hc2 : x2.length ≤ c2) (hs2 : Sl G A2 x2) {Q : Int → disk_Disk → Prop} (h : disk_Disk_Append z0 x1 x2 Q) : Calls Try.prog 26 #[.pointer (some ⟨d0, 0, none⟩), vi x1, .slice A2 x2.length c2] w fun e w2 => ∃ (r0 : Int) (y0 : disk_Disk) (Ay0_1 : Option Addr) (cy0_1 : Nat) (Ay0_2 : Option Addr) (cy0_2 : Nat) (Ay0_3 : Option Addr) (cy0_3 : Nat) (L H : Gh), e = .returned (vi r0) ∧ Inv [d0] G w L H w2 ∧ Tok H w2 d0 53 ([.slice Ay0_1 y0.files_.e0_.length cy0_1, .slice Ay0_2 y0.files_.e1_.length cy0_2, .slice Ay0_3 y0.files_.e2_.length cy0_3, vi y0.room_, .bool y0.off_, .bool y0.armed_, vi y0.left_]) ∧ y0.files_.e0_.length ≤ cy0_1 ∧ Sl H Ay0_1 y0.files_.e0_ ∧ y0.files_.e1_.length ≤ cy0_2 ∧ Sl H Ay0_2 y0.files_.e1_ ∧ y0.files_.e2_.length ≤ cy0_3 ∧ Sl H Ay0_3 y0.files_.e2_ ∧ Q r0 y0 := by
 unfold disk_Disk_Append at h
 have hI := Inv.start (M := [d0]) hS
 refine calls_W 55 Try.func26 rfl Try.ntmps26 rfl [.tmp 6] rfl ?_
 have hlt_d0 := htd0.blk.lt
 refine W_seq_k fun K1 k1 => ?_
 refine W_region [6] rfl (Ops_step (R_assign rfl) rfl rfl ?_)
 refine Ops_nil ?_
 refine then_n (k1 _ _ ?_)
 clear k1 K1
 refine W_seq_k fun K2 k2 => ?_
 refine W_region [10, 11, 12, 7] rfl (Ops_step (R_move rfl) rfl rfl (Ops_step (R_move rfl) rfl rfl ?_))
 refine Ops_call (C_func bd48 rfl) rfl rfl ?_
 refine (disk_Disk_able_ok (x1 := x1) (z0 := z0) hI.st (hg.up hI.le) htd0 hcd0_1 hsd0_1 hcd0_2 hsd0_2 hcd0_3 hsd0_3 h).mono ?_
 rintro _ w3_ ⟨r3_0, L3_, H3_, rfl, hI3_, h⟩
 refine Exists.elim (hI.call hI3_ (by simp)) fun L30_ h3_ => ?_
 have hz3_ := hI.size
 replace hI := h3_.1
 have u3_ := h3_.2.1
 have hl3_ := h3_.2.2
 clear h3_
 replace hsd0_1 := hsd0_1.up u3_.hh
 replace hsd0_2 := hsd0_2.up u3_.hh
 replace hsd0_3 := hsd0_3.up u3_.hh
 replace htd0 := htd0.up u3_ (by simp)
 replace hs2 := hs2.up u3_.hh
 clear hI3_ u3_ hl3_
 refine ⟨_, rfl, ?_⟩
 refine Ops_step (R_assign rfl) rfl rfl ?_
 refine Ops_nil ?_
 refine then_n (k2 _ _ ?_)
 clear k2 K2
 refine W_seq_k fun K4 k4 => ?_
 refine W_block ?_
 refine W_seq_k fun K5 k5 => ?_
 refine W_region [14, 15, 13] rfl (Ops_step (R_move rfl) rfl rfl (Ops_step (R_neq rfl rfl) rfl rfl (Ops_step (R_assign rfl) rfl rfl ?_)))
 refine Ops_nil ?_
 refine then_n (k5 _ _ ?_)
 clear k5 K5
 refine W_keepB [0, 1, 2, 7, 13] fun B_ b_ => ?_
 simp only [e_, Nat.reduceAdd, Nat.reduceBEq] at b_
 subst b_
 refine W_if rfl (fun hc7_ => ?_) (fun hc7_ => ?_)
 ·
  replace h := h.1 hc7_
  refine W_seq_k fun K8 k8 => ?_
  refine W_region [16, 6] rfl (Ops_step (R_move rfl) rfl rfl (Ops_step (R_assign rfl) rfl rfl ?_))
  refine Ops_nil ?_
  refine then_n (k8 _ _ ?_)
  clear k8 K8
  refine W_keepB [6] fun B_ b_ => ?_
  simp only [e_, Nat.reduceAdd, Nat.reduceBEq] at b_
  subst b_
  refine W_ret ?_
  refine block_ret ?_
  refine then_ret ?_
  clear k4 K4
  refine ⟨_, ⟨_, _, rfl, rfl, rfl⟩, ?_⟩
  exact ⟨r3_0, z0, Ad0_1, cd0_1, Ad0_2, cd0_2, Ad0_3, cd0_3, _, _, rfl, hI, htd0, hcd0_1, hsd0_1, hcd0_2, hsd0_2, hcd0_3, hsd0_3, h⟩
 ·
  replace h := h.2 hc7_
  refine W_seq_k fun K10 k10 => ?_
  refine W_drawF [18, 19, 20, 21, 22, 23, 24, 25, 26, 27, 17] [(0, true), (1, true), (2, true), (3, true), (4, true), (5, true), (6, true), (7, false), (8, true), (9, true), (10, true)] TJtC.hm rfl (by kernel_rfl) fun ops11_ w11_ hops11_ hF11_ => ?_
  replace hI := hI.fr0 hF11_
  replace htd0 := htd0.fr0 hF11_
  clear hF11_
  refine HSp (R_move rfl) rfl rfl (HSp (R_len Try.underlying29 rfl rfl) rfl rfl (HSp (R_move rfl) rfl rfl (HSp (R_nilCheck rfl) rfl rfl (HSp (R_fieldAddr fo53_1 rfl) rfl rfl ?_))))
  refine HS_loadB (v := vi z0.room_) ag3 rfl htd0.blk rfl rfl rfl ?_
  refine HSp (R_move rfl) rfl rfl ?_
  refine HS_call [5] _ rfl (by rw [hops11_]; kernel_rfl) (C_func bd49 rfl) rfl rfl ?_
  refine (disk_Disk_Used_ok (z0 := z0) hI.st (hg.up hI.le) htd0 hcd0_1 hsd0_1 hcd0_2 hsd0_2 hcd0_3 hsd0_3 h).mono ?_
  rintro _ w12_ ⟨r12_0, L12_, H12_, rfl, hI12_, h⟩
  refine Exists.elim (hI.call hI12_ (by simp)) fun L120_ h12_ => ?_
  have hz12_ := hI.size
  replace hI := h12_.1
  have u12_ := h12_.2.1
  have hl12_ := h12_.2.2
  clear h12_
  replace hsd0_1 := hsd0_1.up u12_.hh
  replace hsd0_2 := hsd0_2.up u12_.hh
  replace hsd0_3 := hsd0_3.up u12_.hh
  replace htd0 := htd0.up u12_ (by simp)
  replace hs2 := hs2.up u12_.hh
  clear hI12_ u12_ hl12_
  refine ⟨_, rfl, ⟨(htd0.blk.at_ rfl), trivial⟩, ?_⟩
  have hk13_ := h.1
  replace h := h.2
  refine HSp (R_sub rfl rfl (wI hk13_.1 hk13_.2)) rfl rfl (HSp (R_gtr rfl rfl) rfl rfl (HSp (R_assign rfl) rfl rfl ?_))
  refine HS_nil ?_
  clear hops11_
  refine then_n (k10 _ _ ?_)
  clear k10 K10
  refine W_keepB [0, 1, 2, 17] fun B_ b_ => ?_
  simp only [e_, Nat.reduceAdd, Nat.reduceBEq] at b_
  subst b_
  refine W_if rfl (fun hc15_ => ?_) (fun hc15_ => ?_)
  ·
   replace h := h.1 hc15_
   refine W_seq_k fun K16 k16 => ?_
   refine W_region [6] rfl (Ops_step (R_assign rfl) rfl rfl ?_)
   refine Ops_nil ?_
   refine then_n (k16 _ _ ?_)
   clear k16 K16
   refine W_ret ?_
   refine block_ret ?_
   refine then_ret ?_
   clear k4 K4
   refine ⟨_, ⟨_, _, rfl, rfl, rfl⟩, ?_⟩
   exact ⟨7, z0, Ad0_1, cd0_1, Ad0_2, cd0_2, Ad0_3, cd0_3, _, _, rfl, hI, htd0, hcd0_1, hsd0_1, hcd0_2, hsd0_2, hcd0_3, hsd0_3, h⟩
  ·
   replace h := h.2 hc15_
   refine W_skip ?_
   refine block_n ?_
   refine then_n (k4 _ _ ?_)
   clear k4 K4
   refine W_seq_k fun K17 k17 => ?_
   refine W_region [28, 29, 30, 31, 32, 33, 8] rfl (Ops_step (R_move rfl) rfl rfl (Ops_step (R_move rfl) rfl rfl (Ops_step (R_nilCheck rfl) rfl rfl (Ops_step (R_fieldAddr fo53_0 rfl) rfl rfl ?_))))
   have hk18_ := h.1
   replace h := h.2
   refine split3 hk18_ (fun hi18_ => ?_) (fun hi18_ => ?_) (fun hi18_ => ?_)
   ·
    replace h := h.1 hi18_
    refine Ops_step (R_indexArrK Try.underlying51 sz29 rfl rfl hi18_ (by decide)) rfl rfl ?_
    refine Ops_step (R_loadB (v := .slice Ad0_1 z0.files_.e0_.length cd0_1) ag29 rfl htd0.blk rfl) rfl rfl ?_
    refine Ops_step (R_assign rfl) rfl rfl ?_
    refine Ops_nil ?_
    refine then_n (k17 _ _ ?_)
    clear k17 K17
    refine W_keepB [0, 1, 2, 8] fun B_ b_ => ?_
    simp only [e_, Nat.reduceAdd, Nat.reduceBEq] at b_
    subst b_
    refine W_seq_k fun K20 k20 => ?_
    refine W_region [34, 35, 36, 37, 9] rfl (Ops_step (R_move rfl) rfl rfl (Ops_step (R_move rfl) rfl rfl (Ops_step (R_len Try.underlying29 rfl rfl) rfl rfl ?_)))
    refine Ops_call (C_func bd50 rfl) rfl rfl ?_
    refine (disk_Disk_burn_ok (x1 := (x2.length : Int)) (z0 := z0) hI.st (hg.up hI.le) htd0 hcd0_1 hsd0_1 hcd0_2 hsd0_2 hcd0_3 hsd0_3 h).mono ?_
    rintro _ w21_ ⟨r21_0, y21_o0, A21_o0_1, c21_o0_1, A21_o0_2, c21_o0_2, A21_o0_3, c21_o0_3, L21_, H21_, rfl, hI21_, ht21_o0, hc21_o0_1, hs21_o0_1, hc21_o0_2, hs21_o0_2, hc21_o0_3, hs21_o0_3, h⟩
    refine Exists.elim (hI.call hI21_ (mem1 (by simp))) fun L210_ h21_ => ?_
    have hz21_ := hI.size
    replace hI := h21_.1
    have u21_ := h21_.2.1
    have hl21_ := h21_.2.2
    clear h21_
    replace hsd0_1 := hsd0_1.up u21_.hh
    replace hsd0_2 := hsd0_2.up u21_.hh
    replace hsd0_3 := hsd0_3.up u21_.hh
    replace hs2 := hs2.up u21_.hh
    clear htd0
    clear hI21_ u21_ hl21_
    refine ⟨_, rfl, ?_⟩
    refine Ops_step (R_assign rfl) rfl rfl ?_
    refine Ops_nil ?_
    refine then_n (k20 _ _ ?_)
    clear k20 K20
    refine W_seq_k fun K22 k22 => ?_
    refine W_drawF [38, 39, 40, 41, 42, 43, 44, 45, 46, 47, 48, 49, 50, 51, 52, none] [(0, true), (1, true), (2, true), (3, true), (4, true), (5, true), (6, true), (7, true), (8, true), (9, true), (10, true), (12, true), (13, true), (11, false), (14, true), (15, false)] TJtC.hm rfl (by kernel_rfl) fun ops23_ w23_ hops23_ hF23_ => ?_
    replace hI := hI.fr0 hF23_
    replace ht21_o0 := ht21_o0.fr0 hF23_
    clear hF23_
    refine HSp (R_move rfl) rfl rfl (HSp (R_move rfl) rfl rfl (HSp (R_move rfl) rfl rfl (HSp (R_move rfl) rfl rfl (HSp (R_len Try.underlying29 rfl rfl) rfl rfl ?_))))
    refine HSp (R_move rfl) rfl rfl (HSp (R_len Try.underlying29 rfl rfl) rfl rfl ?_)
    have hk25_ := h.1
    replace h := h.2
    refine Exists.elim (cut_ex3 (n := 1) hsd0_1 rfl (by decide) (Int.le_refl 0) hk25_ (Int.le_refl _)) fun A24_ h24_ => ?_
    have hr24_ := h24_.1
    have hs24_ := h24_.2
    clear h24_
    refine HSp (X_slice3 (xs := z0.files_.e0_) Try.underlying29 sz5 rfl hr24_ hcd0_1 rfl rfl rfl (Int.le_refl 0) hk25_ (Int.le_refl _)) rfl rfl ?_
    clear hr24_
    refine HSp (R_move rfl) rfl rfl (HSp (R_move rfl) rfl rfl ?_)
    have hk27_ := h.1
    replace h := h.2
    have hk28_ := h.1
    replace h := h.2
    refine Exists.elim (cut_ex (n := 1) (l := 0) (h := r21_0) hs2 rfl (by decide) hc2 (Int.le_refl 0) hk27_ hk28_) fun A26_ h26_ => Exists.elim h26_ fun c26_ h26_ => ?_
    have hr26_ := h26_.1
    have hc26_ := h26_.2.1
    have hs26_ := h26_.2.2
    clear h26_
    refine HSp (X_slice (xs := x2) Try.underlying29 sz5 rfl hr26_ hc2 rfl rfl (Int.le_refl 0) hk27_ hk28_) rfl rfl ?_
    clear hr26_
    refine HSp (R_nilCheck rfl) rfl rfl (HSp (R_fieldAddr fo53_0 rfl) rfl rfl ?_)
    have hk30_ := h.1
    replace h := h.2
    refine HS_to [] _ rfl (by rw [hops23_]; kernel_rfl) (X_appendTightF (α := UInt8) (xs := (cut z0.files_.e0_ 0 (z0.files_.e0_.length : Int))) (ys := (cut x2 0 r21_0)) el29 rfl rfl rfl hs24_ (Srcs.ofSl Try.underlying29 hs26_ hI.st (by decide)) hI hk30_ (by decide)) rfl rfl ?_
    rintro _ w29_ ⟨A29_, c29_, L29_, H29_, rfl, hI29_, u29_, hc29_, hs29_⟩
    replace hI := hI29_
    replace ht21_o0 := ht21_o0.up u29_ (by simp)
    replace hs21_o0_1 := hs21_o0_1.up u29_.hh
    replace hs21_o0_2 := hs21_o0_2.up u29_.hh
    replace hs21_o0_3 := hs21_o0_3.up u29_.hh
    clear hI29_ u29_
    refine ⟨trivial, ?_⟩
    refine HSp (R_indexArrK Try.underlying51 sz29 rfl rfl hi18_ (by decide)) rfl rfl ?_
    refine HS_to0 [] _ rfl (by rw [hops23_]; kernel_rfl) (R_store sz29 rfl rfl ht21_o0.blk (by show 0 < 7; decide) rfl) rfl ?_
    rintro _ w31_ ⟨hB31_, hF31_⟩
    replace hI := hI.tok hF31_ (out1 ht21_o0.out) (mem1 (by simp))
    replace ht21_o0 : Tok H29_ _ d0 53 ([.slice A29_ (((cut z0.files_.e0_ 0 (z0.files_.e0_.length : Int)) ++ (cut x2 0 r21_0)).length) c29_, .slice A21_o0_2 y21_o0.files_.e1_.length c21_o0_2, .slice A21_o0_3 y21_o0.files_.e2_.length c21_o0_3, vi y21_o0.room_, .bool y21_o0.off_, .bool y21_o0.armed_, vi y21_o0.left_]) := ⟨hB31_, ht21_o0.out⟩
    clear hF31_ hB31_
    refine ⟨trivial, ?_⟩
    refine HS_nil ?_
    clear hops23_
    refine then_n (k22 _ _ ?_)
    clear k22 K22
    refine W_keepB [0] fun B_ b_ => ?_
    simp only [e_, Nat.reduceAdd, Nat.reduceBEq] at b_
    subst b_
    refine W_seq_k fun K33 k33 => ?_
    refine W_region [53, 54, 6] rfl (Ops_step (R_move rfl) rfl rfl ?_)
    refine Ops_call (C_func bd51 rfl) rfl rfl ?_
    refine (disk_Disk_done_ok (z0 := (disk_Disk.mk (arr3_List_UInt8.mk ((cut z0.files_.e0_ 0 (z0.files_.e0_.length : Int)) ++ (cut x2 0 r21_0)) y21_o0.files_.e1_ y21_o0.files_.e2_) y21_o0.room_ y21_o0.off_ y21_o0.armed_ y21_o0.left_)) hI.st (hg.up hI.le) ht21_o0 hc29_ hs29_ hc21_o0_2 hs21_o0_2 hc21_o0_3 hs21_o0_3 h).mono ?_
    rintro _ w34_ ⟨r34_0, L34_, H34_, rfl, hI34_, h⟩
    refine Exists.elim (hI.call hI34_ (by simp)) fun L340_ h34_ => ?_
    have hz34_ := hI.size
    replace hI := h34_.1
    have u34_ := h34_.2.1
    have hl34_ := h34_.2.2
    clear h34_
    replace ht21_o0 := ht21_o0.up u34_ (by simp)
    replace hs21_o0_2 := hs21_o0_2.up u34_.hh
    replace hs21_o0_3 := hs21_o0_3.up u34_.hh
    replace hs29_ := hs29_.up u34_.hh
    clear hI34_ u34_ hl34_
    refine ⟨_, rfl, ?_⟩
    refine Ops_step (R_assign rfl) rfl rfl ?_
    refine Ops_nil ?_
    refine then_n (k33 _ _ ?_)
    clear k33 K33
    refine W_ret ?_
    refine ⟨_, ⟨_, _, rfl, rfl, rfl⟩, ?_⟩
    exact ⟨r34_0, (disk_Disk.mk (arr3_List_UInt8.mk ((cut z0.files_.e0_ 0 (z0.files_.e0_.length : Int)) ++ (cut x2 0 r21_0)) y21_o0.files_.e1_ y21_o0.files_.e2_) y21_o0.room_ y21_o0.off_ y21_o0.armed_ y21_o0.left_), A29_, c29_, A21_o0_2, c21_o0_2, A21_o0_3, c21_o0_3, _, _, rfl, hI, ht21_o0, hc29_, hs29_, hc21_o0_2, hs21_o0_2, hc21_o0_3, hs21_o0_3, h⟩
   ·
    replace h := h.2.1 hi18_
    refine Ops_step (R_indexArrK Try.underlying51 sz29 rfl rfl hi18_ (by decide)) rfl rfl ?_
    refine Ops_step (R_loadB (v := .slice Ad0_2 z0.files_.e1_.length cd0_2) ag29 rfl htd0.blk rfl) rfl rfl ?_
    refine Ops_step (R_assign rfl) rfl rfl ?_
    refine Ops_nil ?_
    refine then_n (k17 _ _ ?_)
    clear k17 K17
    refine W_keepB [0, 1, 2, 8] fun B_ b_ => ?_
    simp only [e_, Nat.reduceAdd, Nat.reduceBEq] at b_
    subst b_
    refine W_seq_k fun K36 k36 => ?_
    refine W_region [34, 35, 36, 37, 9] rfl (Ops_step (R_move rfl) rfl rfl (Ops_step (R_move rfl) rfl rfl (Ops_step (R_len Try.underlying29 rfl rfl) rfl rfl ?_)))
    refine Ops_call (C_func bd50 rfl) rfl rfl ?_
    refine (disk_Disk_burn_ok (x1 := (x2.length : Int)) (z0 := z0) hI.st (hg.up hI.le) htd0 hcd0_1 hsd0_1 hcd0_2 hsd0_2 hcd0_3 hsd0_3 h).mono ?_
    rintro _ w37_ ⟨r37_0, y37_o0, A37_o0_1, c37_o0_1, A37_o0_2, c37_o0_2, A37_o0_3, c37_o0_3, L37_, H37_, rfl, hI37_, ht37_o0, hc37_o0_1, hs37_o0_1, hc37_o0_2, hs37_o0_2, hc37_o0_3, hs37_o0_3, h⟩
    refine Exists.elim (hI.call hI37_ (mem1 (by simp))) fun L370_ h37_ => ?_
    have hz37_ := hI.size
    replace hI := h37_.1
    have u37_ := h37_.2.1
    have hl37_ := h37_.2.2
    clear h37_
    replace hsd0_1 := hsd0_1.up u37_.hh
    replace hsd0_2 := hsd0_2.up u37_.hh
    replace hsd0_3 := hsd0_3.up u37_.hh
    replace hs2 := hs2.up u37_.hh
    clear htd0
    clear hI37_ u37_ hl37_
    refine ⟨_, rfl, ?_⟩
    refine Ops_step (R_assign rfl) rfl rfl ?_
    refine Ops_nil ?_
    refine then_n (k36 _ _ ?_)
    clear k36 K36
    refine W_seq_k fun K38 k38 => ?_
    refine W_drawF [38, 39, 40, 41, 42, 43, 44, 45, 46, 47, 48, 49, 50, 51, 52, none] [(0, true), (1, true), (2, true), (3, true), (4, true), (5, true), (6, true), (7, true), (8, true), (9, true), (10, true), (12, true), (13, true), (11, false), (14, true), (15, false)] TJtC.hm rfl (by kernel_rfl) fun ops39_ w39_ hops39_ hF39_ => ?_
    replace hI := hI.fr0 hF39_
    replace ht37_o0 := ht37_o0.fr0 hF39_
    clear hF39_
    refine HSp (R_move rfl) rfl rfl (HSp (R_move rfl) rfl rfl (HSp (R_move rfl) rfl rfl (HSp (R_move rfl) rfl rfl (HSp (R_len Try.underlying29 rfl rfl) rfl rfl ?_))))
    refine HSp (R_move rfl) rfl rfl (HSp (R_len Try.underlying29 rfl rfl) rfl rfl ?_)
    have hk41_ := h.1
    replace h := h.2
    refine Exists.elim (cut_ex3 (n := 1) hsd0_2 rfl (by decide) (Int.le_refl 0) hk41_ (Int.le_refl _)) fun A40_ h40_ => ?_
    have hr40_ := h40_.1
    have hs40_ := h40_.2
    clear h40_
    refine HSp (X_slice3 (xs := z0.files_.e1_) Try.underlying29 sz5 rfl hr40_ hcd0_2 rfl rfl rfl (Int.le_refl 0) hk41_ (Int.le_refl _)) rfl rfl ?_
    clear hr40_
    refine HSp (R_move rfl) rfl rfl (HSp (R_move rfl) rfl rfl ?_)
    have hk43_ := h.1
    replace h := h.2
    have hk44_ := h.1
    replace h := h.2
    refine Exists.elim (cut_ex (n := 1) (l := 0) (h := r37_0) hs2 rfl (by decide) hc2 (Int.le_refl 0) hk43_ hk44_) fun A42_ h42_ => Exists.elim h42_ fun c42_ h42_ => ?_
    have hr42_ := h42_.1
    have hc42_ := h42_.2.1
    have hs42_ := h42_.2.2
    clear h42_
    refine HSp (X_slice (xs := x2) Try.underlying29 sz5 rfl hr42_ hc2 rfl rfl (Int.le_refl 0) hk43_ hk44_) rfl rfl ?_
    clear hr42_
    refine HSp (R_nilCheck rfl) rfl rfl (HSp (R_fieldAddr fo53_0 rfl) rfl rfl ?_)
    have hk46_ := h.1
    replace h := h.2
    refine HS_to [] _ rfl (by rw [hops39_]; kernel_rfl) (X_appendTightF (α := UInt8) (xs := (cut z0.files_.e1_ 0 (z0.files_.e1_.length : Int))) (ys := (cut x2 0 r37_0)) el29 rfl rfl rfl hs40_ (Srcs.ofSl Try.underlying29 hs42_ hI.st (by decide)) hI hk46_ (by decide)) rfl rfl ?_
    rintro _ w45_ ⟨A45_, c45_, L45_, H45_, rfl, hI45_, u45_, hc45_, hs45_⟩
    replace hI := hI45_
    replace ht37_o0 := ht37_o0.up u45_ (by simp)
    replace hs37_o0_1 := hs37_o0_1.up u45_.hh
    replace hs37_o0_2 := hs37_o0_2.up u45_.hh
    replace hs37_o0_3 := hs37_o0_3.up u45_.hh
    clear hI45_ u45_
    refine ⟨trivial, ?_⟩
    refine HSp (R_indexArrK Try.underlying51 sz29 rfl rfl hi18_ (by decide)) rfl rfl ?_
    refine HS_to0 [] _ rfl (by rw [hops39_]; kernel_rfl) (R_store sz29 rfl rfl ht37_o0.blk (by show 1 < 7; decide) rfl) rfl ?_
    rintro _ w47_ ⟨hB47_, hF47_⟩
    replace hI := hI.tok hF47_ (out1 ht37_o0.out) (mem1 (by simp))
    replace ht37_o0 : Tok H45_ _ d0 53 ([.slice A37_o0_1 y37_o0.files_.e0_.length c37_o0_1, .slice A45_ (((cut z0.files_.e1_ 0 (z0.files_.e1_.length : Int)) ++ (cut x2 0 r37_0)).length) c45_, .slice A37_o0_3 y37_o0.files_.e2_.length c37_o0_3, vi y37_o0.room_, .bool y37_o0.off_, .bool y37_o0.armed_, vi y37_o0.left_]) := ⟨hB47_, ht37_o0.out⟩
    clear hF47_ hB47_
    refine ⟨trivial, ?_⟩
    refine HS_nil ?_
    clear hops39_
    refine then_n (k38 _ _ ?_)
    clear k38 K38
    refine W_keepB [0] fun B_ b_ => ?_
    simp only [e_, Nat.reduceAdd, Nat.reduceBEq] at b_
    subst b_
    refine W_seq_k fun K49 k49 => ?_
    refine W_region [53, 54, 6] rfl (Ops_step (R_move rfl) rfl rfl ?_)
    refine Ops_call (C_func bd51 rfl) rfl rfl ?_
    refine (disk_Disk_done_ok (z0 := (disk_Disk.mk (arr3_List_UInt8.mk y37_o0.files_.e0_ ((cut z0.files_.e1_ 0 (z0.files_.e1_.length : Int)) ++ (cut x2 0 r37_0)) y37_o0.files_.e2_) y37_o0.room_ y37_o0.off_ y37_o0.armed_ y37_o0.left_)) hI.st (hg.up hI.le) ht37_o0 hc37_o0_1 hs37_o0_1 hc45_ hs45_ hc37_o0_3 hs37_o0_3 h).mono ?_
    rintro _ w50_ ⟨r50_0, L50_, H50_, rfl, hI50_, h⟩
    refine Exists.elim (hI.call hI50_ (by simp)) fun L500_ h50_ => ?_
    have hz50_ := hI.size
    replace hI := h50_.1
    have u50_ := h50_.2.1
    have hl50_ := h50_.2.2
    clear h50_
    replace ht37_o0 := ht37_o0.up u50_ (by simp)
    replace hs37_o0_1 := hs37_o0_1.up u50_.hh
    replace hs37_o0_3 := hs37_o0_3.up u50_.hh
    replace hs45_ := hs45_.up u50_.hh
    clear hI50_ u50_ hl50_
    refine ⟨_, rfl, ?_⟩
    refine Ops_step (R_assign rfl) rfl rfl ?_
    refine Ops_nil ?_
    refine then_n (k49 _ _ ?_)
    clear k49 K49
    refine W_ret ?_
    refine ⟨_, ⟨_, _, rfl, rfl, rfl⟩, ?_⟩
    exact ⟨r50_0, (disk_Disk.mk (arr3_List_UInt8.mk y37_o0.files_.e0_ ((cut z0.files_.e1_ 0 (z0.files_.e1_.length : Int)) ++ (cut x2 0 r37_0)) y37_o0.files_.e2_) y37_o0.room_ y37_o0.off_ y37_o0.armed_ y37_o0.left_), A37_o0_1, c37_o0_1, A45_, c45_, A37_o0_3, c37_o0_3, _, _, rfl, hI, ht37_o0, hc37_o0_1, hs37_o0_1, hc45_, hs45_, hc37_o0_3, hs37_o0_3, h⟩
   ·
    replace h := h.2.2 hi18_
    refine Ops_step (R_indexArrK Try.underlying51 sz29 rfl rfl hi18_ (by decide)) rfl rfl ?_
    refine Ops_step (R_loadB (v := .slice Ad0_3 z0.files_.e2_.length cd0_3) ag29 rfl htd0.blk rfl) rfl rfl ?_
    refine Ops_step (R_assign rfl) rfl rfl ?_
    refine Ops_nil ?_
    refine then_n (k17 _ _ ?_)
    clear k17 K17
    refine W_keepB [0, 1, 2, 8] fun B_ b_ => ?_
    simp only [e_, Nat.reduceAdd, Nat.reduceBEq] at b_
    subst b_
    refine W_seq_k fun K52 k52 => ?_
    refine W_region [34, 35, 36, 37, 9] rfl (Ops_step (R_move rfl) rfl rfl (Ops_step (R_move rfl) rfl rfl (Ops_step (R_len Try.underlying29 rfl rfl) rfl rfl ?_)))
    refine Ops_call (C_func bd50 rfl) rfl rfl ?_
    refine (disk_Disk_burn_ok (x1 := (x2.length : Int)) (z0 := z0) hI.st (hg.up hI.le) htd0 hcd0_1 hsd0_1 hcd0_2 hsd0_2 hcd0_3 hsd0_3 h).mono ?_
    rintro _ w53_ ⟨r53_0, y53_o0, A53_o0_1, c53_o0_1, A53_o0_2, c53_o0_2, A53_o0_3, c53_o0_3, L53_, H53_, rfl, hI53_, ht53_o0, hc53_o0_1, hs53_o0_1, hc53_o0_2, hs53_o0_2, hc53_o0_3, hs53_o0_3, h⟩
    refine Exists.elim (hI.call hI53_ (mem1 (by simp))) fun L530_ h53_ => ?_
    have hz53_ := hI.size
    replace hI := h53_.1
    have u53_ := h53_.2.1
    have hl53_ := h53_.2.2
    clear h53_
    replace hsd0_1 := hsd0_1.up u53_.hh
    replace hsd0_2 := hsd0_2.up u53_.hh
    replace hsd0_3 := hsd0_3.up u53_.hh
    replace hs2 := hs2.up u53_.hh
    clear htd0
    clear hI53_ u53_ hl53_
    refine ⟨_, rfl, ?_⟩
    refine Ops_step (R_assign rfl) rfl rfl ?_
    refine Ops_nil ?_
    refine then_n (k52 _ _ ?_)
    clear k52 K52
    refine W_seq_k fun K54 k54 => ?_
    refine W_drawF [38, 39, 40, 41, 42, 43, 44, 45, 46, 47, 48, 49, 50, 51, 52, none] [(0, true), (1, true), (2, true), (3, true), (4, true), (5, true), (6, true), (7, true), (8, true), (9, true), (10, true), (12, true), (13, true), (11, false), (14, true), (15, false)] TJtC.hm rfl (by kernel_rfl) fun ops55_ w55_ hops55_ hF55_ => ?_
    replace hI := hI.fr0 hF55_
    replace ht53_o0 := ht53_o0.fr0 hF55_
    clear hF55_
    refine HSp (R_move rfl) rfl rfl (HSp (R_move rfl) rfl rfl (HSp (R_move rfl) rfl rfl (HSp (R_move rfl) rfl rfl (HSp (R_len Try.underlying29 rfl rfl) rfl rfl ?_))))
    refine HSp (R_move rfl) rfl rfl (HSp (R_len Try.underlying29 rfl rfl) rfl rfl ?_)
    have hk57_ := h.1
    replace h := h.2
    refine Exists.elim (cut_ex3 (n := 1) hsd0_3 rfl (by decide) (Int.le_refl 0) hk57_ (Int.le_refl _)) fun A56_ h56_ => ?_
    have hr56_ := h56_.1
    have hs56_ := h56_.2
    clear h56_
    refine HSp (X_slice3 (xs := z0.files_.e2_) Try.underlying29 sz5 rfl hr56_ hcd0_3 rfl rfl rfl (Int.le_refl 0) hk57_ (Int.le_refl _)) rfl rfl ?_
    clear hr56_
    refine HSp (R_move rfl) rfl rfl (HSp (R_move rfl) rfl rfl ?_)
    have hk59_ := h.1
    replace h := h.2
    have hk60_ := h.1
    replace h := h.2
    refine Exists.elim (cut_ex (n := 1) (l := 0) (h := r53_0) hs2 rfl (by decide) hc2 (Int.le_refl 0) hk59_ hk60_) fun A58_ h58_ => Exists.elim h58_ fun c58_ h58_ => ?_
    have hr58_ := h58_.1
    have hc58_ := h58_.2.1
    have hs58_ := h58_.2.2
    clear h58_
    refine HSp (X_slice (xs := x2) Try.underlying29 sz5 rfl hr58_ hc2 rfl rfl (Int.le_refl 0) hk59_ hk60_) rfl rfl ?_
    clear hr58_
    refine HSp (R_nilCheck rfl) rfl rfl (HSp (R_fieldAddr fo53_0 rfl) rfl rfl ?_)
    have hk62_ := h.1
    replace h := h.2
    refine HS_to [] _ rfl (by rw [hops55_]; kernel_rfl) (X_appendTightF (α := UInt8) (xs := (cut z0.files_.e2_ 0 (z0.files_.e2_.length : Int))) (ys := (cut x2 0 r53_0)) el29 rfl rfl rfl hs56_ (Srcs.ofSl Try.underlying29 hs58_ hI.st (by decide)) hI hk62_ (by decide)) rfl rfl ?_
    rintro _ w61_ ⟨A61_, c61_, L61_, H61_, rfl, hI61_, u61_, hc61_, hs61_⟩
    replace hI := hI61_
    replace ht53_o0 := ht53_o0.up u61_ (by simp)
    replace hs53_o0_1 := hs53_o0_1.up u61_.hh
    replace hs53_o0_2 := hs53_o0_2.up u61_.hh
    replace hs53_o0_3 := hs53_o0_3.up u61_.hh
    clear hI61_ u61_
    refine ⟨trivial, ?_⟩
    refine HSp (R_indexArrK Try.underlying51 sz29 rfl rfl hi18_ (by decide)) rfl rfl ?_
    refine HS_to0 [] _ rfl (by rw [hops55_]; kernel_rfl) (R_store sz29 rfl rfl ht53_o0.blk (by show 2 < 7; decide) rfl) rfl ?_
    rintro _ w63_ ⟨hB63_, hF63_⟩
    replace hI := hI.tok hF63_ (out1 ht53_o0.out) (mem1 (by simp))
    replace ht53_o0 : Tok H61_ _ d0 53 ([.slice A53_o0_1 y53_o0.files_.e0_.length c53_o0_1, .slice A53_o0_2 y53_o0.files_.e1_.length c53_o0_2, .slice A61_ (((cut z0.files_.e2_ 0 (z0.files_.e2_.length : Int)) ++ (cut x2 0 r53_0)).length) c61_, vi y53_o0.room_, .bool y53_o0.off_, .bool y53_o0.armed_, vi y53_o0.left_]) := ⟨hB63_, ht53_o0.out⟩
    clear hF63_ hB63_
    refine ⟨trivial, ?_⟩
    refine HS_nil ?_
    clear hops55_
    refine then_n (k54 _ _ ?_)
    clear k54 K54
    refine W_keepB [0] fun B_ b_ => ?_
    simp only [e_, Nat.reduceAdd, Nat.reduceBEq] at b_
    subst b_
    refine W_seq_k fun K65 k65 => ?_
    refine W_region [53, 54, 6] rfl (Ops_step (R_move rfl) rfl rfl ?_)
    refine Ops_call (C_func bd51 rfl) rfl rfl ?_
    refine (disk_Disk_done_ok (z0 := (disk_Disk.mk (arr3_List_UInt8.mk y53_o0.files_.e0_ y53_o0.files_.e1_ ((cut z0.files_.e2_ 0 (z0.files_.e2_.length : Int)) ++ (cut x2 0 r53_0))) y53_o0.room_ y53_o0.off_ y53_o0.armed_ y53_o0.left_)) hI.st (hg.up hI.le) ht53_o0 hc53_o0_1 hs53_o0_1 hc53_o0_2 hs53_o0_2 hc61_ hs61_ h).mono ?_
    rintro _ w66_ ⟨r66_0, L66_, H66_, rfl, hI66_, h⟩
    refine Exists.elim (hI.call hI66_ (by simp)) fun L660_ h66_ => ?_
    have hz66_ := hI.size
    replace hI := h66_.1
    have u66_ := h66_.2.1
    have hl66_ := h66_.2.2
    clear h66_
    replace ht53_o0 := ht53_o0.up u66_ (by simp)
    replace hs53_o0_1 := hs53_o0_1.up u66_.hh
    replace hs53_o0_2 := hs53_o0_2.up u66_.hh
    replace hs61_ := hs61_.up u66_.hh
    clear hI66_ u66_ hl66_
    refine ⟨_, rfl, ?_⟩
    refine Ops_step (R_assign rfl) rfl rfl ?_
    refine Ops_nil ?_
    refine then_n (k65 _ _ ?_)
    clear k65 K65
    refine W_ret ?_
    refine ⟨_, ⟨_, _, rfl, rfl, rfl⟩, ?_⟩
    exact ⟨r66_0, (disk_Disk.mk (arr3_List_UInt8.mk y53_o0.files_.e0_ y53_o0.files_.e1_ ((cut z0.files_.e2_ 0 (z0.files_.e2_.length : Int)) ++ (cut x2 0 r53_0))) y53_o0.room_ y53_o0.off_ y53_o0.armed_ y53_o0.left_), A53_o0_1, c53_o0_1, A53_o0_2, c53_o0_2, A61_, c61_, _, _, rfl, hI, ht53_o0, hc53_o0_1, hs53_o0_1, hc53_o0_2, hs53_o0_2, hc61_, hs61_, h⟩

end Go.Proofs.Ytkmljjhjojolcaa

