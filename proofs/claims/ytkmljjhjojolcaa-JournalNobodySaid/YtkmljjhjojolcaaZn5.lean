/- What is shown of the program on the way to the law. -/
import Derived.Test.YtkmljjhjojolcaaZn1
import Derived.Test.YtkmljjhjojolcaaZn3
import Derived.Test.YtkmljjhjojolcaaZn4
import Derived.Test.YtkmljjhjojolcaaProg
set_option linter.unusedVariables false
set_option linter.unusedSimpArgs false
set_option maxHeartbeats 4000000
namespace Go.Proofs.Ytkmljjhjojolcaa
open Go Go.Sx Go.Lx
namespace TJtA
theorem hm : Try.prog.follows .mixedOrders = true := by kernel_rfl
theorem ag29 : aggB Try.prog 29 = some false := by kernel_rfl
theorem ag3 : aggB Try.prog 3 = some false := by kernel_rfl
theorem ag32 : aggB Try.prog 32 = some false := by kernel_rfl
theorem ag4 : aggB Try.prog 4 = some false := by kernel_rfl
theorem ag5 : aggB Try.prog 5 = some false := by kernel_rfl
theorem bd48 : bodied Try.prog 48 = true := by kernel_rfl
theorem bd67 : bodied Try.prog 67 = true := by kernel_rfl
theorem bd81 : bodied Try.prog 81 = true := by kernel_rfl
theorem bd82 : bodied Try.prog 82 = true := by kernel_rfl
theorem bd83 : bodied Try.prog 83 = true := by kernel_rfl
theorem bd84 : bodied Try.prog 84 = true := by kernel_rfl
theorem bd85 : bodied Try.prog 85 = true := by kernel_rfl
theorem bd89 : bodied Try.prog 89 = true := by kernel_rfl
theorem bd90 : bodied Try.prog 90 = true := by kernel_rfl
theorem bd91 : bodied Try.prog 91 = true := by kernel_rfl
theorem el29 : Elem Try.prog 29 5 1 1 := Elem.of (by kernel_rfl)
theorem fo118_0 : offB Try.prog 118 0 = some 0 := by kernel_rfl
theorem fo118_1 : offB Try.prog 118 1 = some 1 := by kernel_rfl
theorem fo118_2 : offB Try.prog 118 2 = some 2 := by kernel_rfl
theorem fo118_3 : offB Try.prog 118 3 = some 3 := by kernel_rfl
theorem fo120_0 : offB Try.prog 120 0 = some 0 := by kernel_rfl
theorem fo53_0 : offB Try.prog 53 0 = some 0 := by kernel_rfl
theorem fo53_1 : offB Try.prog 53 1 = some 3 := by kernel_rfl
theorem fo53_2 : offB Try.prog 53 2 = some 4 := by kernel_rfl
theorem pl118 : partPl Try.prog 118 = some [(0, 1), (1, 1), (2, 1), (3, 1)] := by kernel_rfl
theorem pl120 : partPl Try.prog 120 = some [(0, 4)] := by kernel_rfl
theorem pl53 : partPl Try.prog 53 = some [(0, 3), (3, 1), (4, 1), (5, 1), (6, 1)] := by kernel_rfl
theorem sz29 : sz Try.prog 29 = some 1 := by kernel_rfl
theorem sz3 : sz Try.prog 3 = some 1 := by kernel_rfl
theorem sz32 : sz Try.prog 32 = some 1 := by kernel_rfl
theorem sz5 : sz Try.prog 5 = some 1 := by kernel_rfl
theorem zr118 : zr Try.prog 118 = some ([.slice none 0 0] ++ [.int .i64 0] ++ [.int .i64 0] ++ [.bool false]) := by kernel_rfl
theorem zr120 : zr Try.prog 120 = some ([.slice none 0 0] ++ [.int .i64 0] ++ [.int .i64 0] ++ [.bool false]) := by kernel_rfl
theorem zr53 : zr Try.prog 53 = some (List.replicate 3 (.slice none 0 0) ++ [.int .i64 0] ++ [.bool false] ++ [.bool false] ++ [.int .i64 0]) := by kernel_rfl
end TJtA
open TJtA
theorem disk_New_ok {G : Gh} {w : World} (hS : St G w) (hg : GL G) {x0 : Int} {Q0 : Int → Prop} {Q1 : Int → disk_Disk → Prop} (h : disk_New x0 Q0 Q1) : Calls Try.prog 24 #[vi x0] w fun e w2 => (∃ (r1 : Int) (L H : Gh), e = .returned (.tuple #[.pointer none, vi r1]) ∧ Inv [] G w L H w2 ∧ Q0 r1) ∨ (∃ (r1 : Int) (o0 : Nat) (y0 : disk_Disk) (Ay0_1 : Option Addr) (cy0_1 : Nat) (Ay0_2 : Option Addr) (cy0_2 : Nat) (Ay0_3 : Option Addr) (cy0_3 : Nat) (L H : Gh), e = .returned (.tuple #[.pointer (some ⟨o0, 0, none⟩), vi r1]) ∧ Inv [] G w L H w2 ∧ w.heap.size ≤ o0 ∧ Tok H w2 o0 53 ([.slice Ay0_1 y0.files_.e0_.length cy0_1, .slice Ay0_2 y0.files_.e1_.length cy0_2, .slice Ay0_3 y0.files_.e2_.length cy0_3, vi y0.room_, .bool y0.off_, .bool y0.armed_, vi y0.left_]) ∧ y0.files_.e0_.length ≤ cy0_1 ∧ Sl H Ay0_1 y0.files_.e0_ ∧ y0.files_.e1_.length ≤ cy0_2 ∧ Sl H Ay0_2 y0.files_.e1_ ∧ y0.files_.e2_.length ≤ cy0_3 ∧ Sl H Ay0_3 y0.files_.e2_ ∧ Q1 r1 y0) := by
 unfold disk_New at h
 have hI := Inv.start (M := []) hS
 refine calls_W 13 Try.func24 rfl Try.ntmps24 rfl [.tmp 2, .tmp 3] rfl ?_
 refine W_seq_k fun K1 k1 => ?_
 refine W_region [2, 3] rfl (Ops_step (R_assign rfl) rfl rfl (Ops_step (R_assign rfl) rfl rfl ?_))
 refine Ops_nil ?_
 refine then_n (k1 _ _ ?_)
 clear k1 K1
 refine W_seq_k fun K2 k2 => ?_
 refine ex_ h fun J3_ hr3_ h => ?_
 refine W_seq_join [0] [9] (fun vals_ w2 => ∃ (x9_3 : Bool) (L H : Gh), vals_ = [.bool x9_3] ∧ J3_ x9_3 ∧ Inv [] G w L H w2 ∧ Le Gh.no L ∧ Le G H ∧ True) (fun B_ b_ => ?_) (fun B_ b_ => ?_)
 ·
  simp only [e_, Nat.reduceAdd, Nat.reduceBEq] at b_
  subst b_
  clear hr3_
  have hll3_ := Le.refl Gh.no
  have hhh3_ := Le.refl G
  refine W_region [4, 5, 6, 7, 8, 9] rfl (Ops_step (R_move rfl) rfl rfl (Ops_step (R_lss rfl rfl) rfl rfl (Ops_step (R_move rfl) rfl rfl ?_)))
  refine Ops_split 6 rfl (fun hg4_ => ?_) (fun hg4_ => ?_)
  ·
   replace h := h.1 hg4_
   refine Ops_pass rfl rfl (Ops_pass rfl rfl (Ops_step (R_pick_true rfl rfl) rfl rfl ?_))
   refine Ops_nil ?_
   refine then_n ?_
   exact ⟨_, rfl, ⟨true, _, _, rfl, h, hI, hll3_, hhh3_, trivial⟩, ⟨rfl, trivial⟩⟩
  ·
   replace h := h.2 hg4_
   refine Ops_step (R_move rfl) rfl rfl (Ops_step (R_gtr rfl rfl) rfl rfl (Ops_step (R_pick_false rfl rfl) rfl rfl ?_))
   refine Ops_nil ?_
   refine then_n ?_
   exact ⟨_, rfl, ⟨(decide (x0 > 16777216)), _, _, rfl, h, hI, hll3_, hhh3_, trivial⟩, ⟨rfl, trivial⟩⟩
 ·
  simp only [e_, Nat.reduceAdd, Nat.reduceBEq] at b_
  subst b_
  clear h
  rintro _ w3_ ⟨x9_3, L3_, H3_, rfl, hJ3_, hI3_, hll3_, hhh3_, -⟩
  replace hI := hI3_
  clear hI3_
  have h := hr3_ x9_3 hJ3_
  clear hr3_ hJ3_
  refine W_cond rfl (fun hc5_ => ?_) (fun hc5_ => ?_)
  ·
   replace h := h.1 hc5_
   refine W_seq_k fun K6 k6 => ?_
   refine W_region [2, 3] rfl (Ops_step (R_assign rfl) rfl rfl (Ops_step (R_assign rfl) rfl rfl ?_))
   refine Ops_nil ?_
   refine then_n (k6 _ _ ?_)
   clear k6 K6
   refine W_ret ?_
   refine then_ret ?_
   clear k2 K2
   refine ⟨_, ⟨_, _, rfl, rfl, ⟨_, _, rfl, rfl, rfl⟩⟩, ?_⟩
   exact .inl ⟨1, _, _, rfl, hI, h⟩
  ·
   replace h := h.2 hc5_
   refine W_skip ?_
   refine then_n (k2 _ _ ?_)
   clear k2 K2
   refine W_seq_k fun K7 k7 => ?_
   refine W_region [10, 11, 12, 2, 3] rfl (Ops_step (R_move rfl) rfl rfl ?_)
   refine Ops_step (R_build (pl := [(3, 1)]) (cs := [.slice none 0 0, .slice none 0 0, .slice none 0 0, vi x0, .bool false, .bool false, vi 0]) zr53 pl53 rfl rfl rfl) rfl rfl ?_
   have hI0_ := hI
   refine Ops_to (R_box rfl) rfl rfl ?_
   rintro _ w8_ ⟨b8_, rfl, hb8_, hB8_, hF8_⟩
   replace hI := hI.fr0 hF8_
   have ht8_ : Tok H3_ _ b8_ 53 ([.slice none 0 0, .slice none 0 0, .slice none 0 0, vi x0, .bool false, .bool false, vi 0]) := ⟨hB8_.to rfl, Out.ge hI0_.st (Nat.le_of_eq hb8_.symm)⟩
   have hge_b8_ : w.heap.size ≤ b8_ := hb8_ ▸ hI0_.size
   clear hB8_ hb8_ hI0_ hF8_
   refine Ops_step (R_assign rfl) rfl rfl (Ops_step (R_assign rfl) rfl rfl ?_)
   refine Ops_nil ?_
   refine then_n (k7 _ _ ?_)
   clear k7 K7
   refine W_ret ?_
   refine ⟨_, ⟨_, _, rfl, rfl, ⟨_, _, rfl, rfl, rfl⟩⟩, ?_⟩
   exact .inr ⟨0, b8_, (disk_Disk.mk (arr3_List_UInt8.mk [] [] []) x0 false false 0), none, 0, none, 0, none, 0, _, _, rfl, hI, hge_b8_, ht8_, (Nat.le_refl 0), Sl.nil, (Nat.le_refl 0), Sl.nil, (Nat.le_refl 0), Sl.nil, h⟩

theorem disk_Disk_able_ok {G : Gh} {w : World} (hS : St G w) (hg : GL G) {d0 : Nat} {z0 : disk_Disk} {Ad0_1 : Option Addr} {cd0_1 : Nat} {Ad0_2 : Option Addr} {cd0_2 : Nat} {Ad0_3 : Option Addr} {cd0_3 : Nat} (htd0 : Tok G w d0 53 ([.slice Ad0_1 z0.files_.e0_.length cd0_1, .slice Ad0_2 z0.files_.e1_.length cd0_2, .slice Ad0_3 z0.files_.e2_.length cd0_3, vi z0.room_, .bool z0.off_, .bool z0.armed_, vi z0.left_])) (hcd0_1 : z0.files_.e0_.length ≤ cd0_1) (hsd0_1 : Sl G Ad0_1 z0.files_.e0_) (hcd0_2 : z0.files_.e1_.length ≤ cd0_2) (hsd0_2 : Sl G Ad0_2 z0.files_.e1_) (hcd0_3 : z0.files_.e2_.length ≤ cd0_3) (hsd0_3 : Sl G Ad0_3 z0.files_.e2_) {x1 : Int} {Q : Int → Prop} (h : disk_Disk_able z0 x1 Q) : Calls Try.prog 48 #[.pointer (some ⟨d0, 0, none⟩), vi x1] w fun e w2 => ∃ (r0 : Int) (L H : Gh), e = .returned (vi r0) ∧ Inv [] G w L H w2 ∧ Q r0 := by
 unfold disk_Disk_able at h
 have hI := Inv.start (M := []) hS
 refine calls_W 27 Try.func48 rfl Try.ntmps48 rfl [.tmp 4] rfl ?_
 have hlt_d0 := htd0.blk.lt
 refine W_seq_k fun K1 k1 => ?_
 refine W_region [4] rfl (Ops_step (R_assign rfl) rfl rfl ?_)
 refine Ops_nil ?_
 refine then_n (k1 _ _ ?_)
 clear k1 K1
 refine W_seq_k fun K2 k2 => ?_
 refine W_block ?_
 refine ex_ h fun J3_ hr3_ h => ?_
 refine W_seq_join [0, 1] [5] (fun vals_ w2 => ∃ (x5_3 : Bool) (L H : Gh), vals_ = [.bool x5_3] ∧ J3_ x5_3 ∧ Inv [] G w L H w2 ∧ Le Gh.no L ∧ Le G H ∧ Tok H w2 d0 53 ([.slice Ad0_1 z0.files_.e0_.length cd0_1, .slice Ad0_2 z0.files_.e1_.length cd0_2, .slice Ad0_3 z0.files_.e2_.length cd0_3, vi z0.room_, .bool z0.off_, .bool z0.armed_, vi z0.left_]) ∧ True) (fun B_ b_ => ?_) (fun B_ b_ => ?_)
 ·
  simp only [e_, Nat.reduceAdd, Nat.reduceBEq] at b_
  subst b_
  clear hr3_
  have hll3_ := Le.refl Gh.no
  have hhh3_ := Le.refl G
  refine W_region [6, 7, 8, 9, 10, 11, 12, 13, 14, 5] rfl (Ops_step (R_move rfl) rfl rfl (Ops_step (R_ptrNil Try.underlying25 rfl rfl) rfl rfl (Ops_step (R_move rfl) rfl rfl (Ops_step (R_move rfl) rfl rfl ?_))))
  refine Ops_step (R_nilCheck rfl) rfl rfl (Ops_step (R_fieldAddr fo53_1 rfl) rfl rfl ?_)
  refine Ops_step (R_loadB (v := vi z0.room_) ag3 rfl htd0.blk rfl) rfl rfl ?_
  refine Ops_step (R_eql rfl rfl) rfl rfl (Ops_step (R_pick_false rfl rfl) rfl rfl (Ops_step (R_assign rfl) rfl rfl ?_))
  refine Ops_nil ?_
  refine then_n ?_
  exact ⟨_, rfl, ⟨(decide (z0.room_ = 0)), _, _, rfl, h, hI, hll3_, hhh3_, htd0, trivial⟩, ⟨rfl, rfl, trivial⟩⟩
 ·
  simp only [e_, Nat.reduceAdd, Nat.reduceBEq] at b_
  subst b_
  clear h
  clear htd0
  rintro _ w3_ ⟨x5_3, L3_, H3_, rfl, hJ3_, hI3_, hll3_, hhh3_, htd0, -⟩
  replace hI := hI3_
  clear hI3_
  have h := hr3_ x5_3 hJ3_
  clear hr3_ hJ3_
  replace hsd0_1 := hsd0_1.up hhh3_
  replace hsd0_2 := hsd0_2.up hhh3_
  replace hsd0_3 := hsd0_3.up hhh3_
  refine W_cond rfl (fun hc4_ => ?_) (fun hc4_ => ?_)
  ·
   replace h := h.1 hc4_
   refine W_seq_k fun K5 k5 => ?_
   refine W_region [4] rfl (Ops_step (R_assign rfl) rfl rfl ?_)
   refine Ops_nil ?_
   refine then_n (k5 _ _ ?_)
   clear k5 K5
   refine W_ret ?_
   refine block_ret ?_
   refine then_ret ?_
   clear k2 K2
   refine ⟨_, ⟨_, _, rfl, rfl, rfl⟩, ?_⟩
   exact ⟨6, _, _, rfl, hI, h⟩
  ·
   replace h := h.2 hc4_
   refine W_seq_k fun K6 k6 => ?_
   refine W_region [16, 17, 18, 19, 15] rfl (Ops_step (R_move rfl) rfl rfl (Ops_step (R_nilCheck rfl) rfl rfl (Ops_step (R_fieldAddr fo53_2 rfl) rfl rfl ?_)))
   refine Ops_step (R_loadB (v := .bool z0.off_) ag4 rfl htd0.blk rfl) rfl rfl ?_
   refine Ops_step (R_assign rfl) rfl rfl ?_
   refine Ops_nil ?_
   refine then_n (k6 _ _ ?_)
   clear k6 K6
   refine W_keepB [1, 15] fun B_ b_ => ?_
   simp only [e_, Nat.reduceAdd, Nat.reduceBEq] at b_
   subst b_
   refine W_cond rfl (fun hc8_ => ?_) (fun hc8_ => ?_)
   ·
    replace h := h.1 hc8_
    refine W_seq_k fun K9 k9 => ?_
    refine W_region [4] rfl (Ops_step (R_assign rfl) rfl rfl ?_)
    refine Ops_nil ?_
    refine then_n (k9 _ _ ?_)
    clear k9 K9
    refine W_ret ?_
    refine block_ret ?_
    refine then_ret ?_
    clear k2 K2
    refine ⟨_, ⟨_, _, rfl, rfl, rfl⟩, ?_⟩
    exact ⟨50, _, _, rfl, hI, h⟩
   ·
    replace h := h.2 hc8_
    refine ex_ h fun J10_ hr10_ h => ?_
    refine W_seq_join [] [20] (fun vals_ w2 => ∃ (x20_10 : Bool) (L H : Gh), vals_ = [.bool x20_10] ∧ J10_ x20_10 ∧ Inv [] G w L H w2 ∧ Le L3_ L ∧ Le H3_ H ∧ Tok H w2 d0 53 ([.slice Ad0_1 z0.files_.e0_.length cd0_1, .slice Ad0_2 z0.files_.e1_.length cd0_2, .slice Ad0_3 z0.files_.e2_.length cd0_3, vi z0.room_, .bool z0.off_, .bool z0.armed_, vi z0.left_]) ∧ True) (fun B_ b_ => ?_) (fun B_ b_ => ?_)
    ·
     simp only [e_, Nat.reduceAdd, Nat.reduceBEq] at b_
     subst b_
     clear hr10_
     have hll10_ := Le.refl L3_
     have hhh10_ := Le.refl H3_
     refine W_region [21, 22, 23, 24, 25, 26, 20] rfl (Ops_step (R_move rfl) rfl rfl (Ops_step (R_lss rfl rfl) rfl rfl (Ops_step (R_move rfl) rfl rfl ?_)))
     refine Ops_split 23 rfl (fun hg11_ => ?_) (fun hg11_ => ?_)
     ·
      replace h := h.1 hg11_
      refine Ops_pass rfl rfl (Ops_pass rfl rfl (Ops_step (R_pick_true rfl rfl) rfl rfl (Ops_step (R_assign rfl) rfl rfl ?_)))
      refine Ops_nil ?_
      refine then_n ?_
      exact ⟨_, rfl, ⟨true, _, _, rfl, h, hI, hll10_, hhh10_, htd0, trivial⟩, trivial⟩
     ·
      replace h := h.2 hg11_
      refine Ops_step (R_move rfl) rfl rfl (Ops_step (R_geq rfl rfl) rfl rfl (Ops_step (R_pick_false rfl rfl) rfl rfl (Ops_step (R_assign rfl) rfl rfl ?_)))
      refine Ops_nil ?_
      refine then_n ?_
      exact ⟨_, rfl, ⟨(decide (x1 ≥ 3)), _, _, rfl, h, hI, hll10_, hhh10_, htd0, trivial⟩, trivial⟩
    ·
     simp only [e_, Nat.reduceAdd, Nat.reduceBEq] at b_
     subst b_
     clear h
     clear htd0
     rintro _ w10_ ⟨x20_10, L10_, H10_, rfl, hJ10_, hI10_, hll10_, hhh10_, htd0, -⟩
     replace hI := hI10_
     clear hI10_
     have h := hr10_ x20_10 hJ10_
     clear hr10_ hJ10_
     replace hsd0_1 := hsd0_1.up hhh10_
     replace hsd0_2 := hsd0_2.up hhh10_
     replace hsd0_3 := hsd0_3.up hhh10_
     refine W_cond rfl (fun hc12_ => ?_) (fun hc12_ => ?_)
     ·
      replace h := h.1 hc12_
      refine W_seq_k fun K13 k13 => ?_
      refine W_region [4] rfl (Ops_step (R_assign rfl) rfl rfl ?_)
      refine Ops_nil ?_
      refine then_n (k13 _ _ ?_)
      clear k13 K13
      refine W_ret ?_
      refine block_ret ?_
      refine then_ret ?_
      clear k2 K2
      refine ⟨_, ⟨_, _, rfl, rfl, rfl⟩, ?_⟩
      exact ⟨51, _, _, rfl, hI, h⟩
     ·
      replace h := h.2 hc12_
      refine W_skip ?_
      refine block_n ?_
      refine then_n (k2 _ _ ?_)
      clear k2 K2
      refine W_seq_k fun K14 k14 => ?_
      refine W_region [4] rfl (Ops_step (R_assign rfl) rfl rfl ?_)
      refine Ops_nil ?_
      refine then_n (k14 _ _ ?_)
      clear k14 K14
      refine W_ret ?_
      refine ⟨_, ⟨_, _, rfl, rfl, rfl⟩, ?_⟩
      exact ⟨0, _, _, rfl, hI, h⟩

theorem disk_Disk_Read_ok {G : Gh} {w : World} (hS : St G w) (hg : GL G) {d0 : Nat} {z0 : disk_Disk} {Ad0_1 : Option Addr} {cd0_1 : Nat} {Ad0_2 : Option Addr} {cd0_2 : Nat} {Ad0_3 : Option Addr} {cd0_3 : Nat} (htd0 : Tok G w d0 53 ([.slice Ad0_1 z0.files_.e0_.length cd0_1, .slice Ad0_2 z0.files_.e1_.length cd0_2, .slice Ad0_3 z0.files_.e2_.length cd0_3, vi z0.room_, .bool z0.off_, .bool z0.armed_, vi z0.left_])) (hcd0_1 : z0.files_.e0_.length ≤ cd0_1) (hsd0_1 : Sl G Ad0_1 z0.files_.e0_) (hcd0_2 : z0.files_.e1_.length ≤ cd0_2) (hsd0_2 : Sl G Ad0_2 z0.files_.e1_) (hcd0_3 : z0.files_.e2_.length ≤ cd0_3) (hsd0_3 : Sl G Ad0_3 z0.files_.e2_) {x1 : Int} {Q : (List UInt8) → Int → Prop} (h : disk_Disk_Read z0 x1 Q) : Calls Try.prog 44 #[.pointer (some ⟨d0, 0, none⟩), vi x1] w fun e w2 => ∃ (A0 : Option Addr) (c0 : Nat) (r0 : List UInt8) (r1 : Int) (L H : Gh), e = .returned (.tuple #[.slice A0 r0.length c0, vi r1]) ∧ Inv [] G w L H w2 ∧ OwnS w.heap.size 5 L H w2 A0 c0 r0 ∧ Q r0 r1 := by
 unfold disk_Disk_Read at h
 have hI := Inv.start (M := []) hS
 refine calls_W 21 Try.func44 rfl Try.ntmps44 rfl [.tmp 4, .tmp 5] rfl ?_
 have hlt_d0 := htd0.blk.lt
 refine W_seq_k fun K1 k1 => ?_
 refine W_region [4, 5] rfl (Ops_step (R_assign rfl) rfl rfl (Ops_step (R_assign rfl) rfl rfl ?_))
 refine Ops_nil ?_
 refine then_n (k1 _ _ ?_)
 clear k1 K1
 refine W_seq_k fun K2 k2 => ?_
 refine W_seq_k fun K3 k3 => ?_
 refine W_region [7, 8, 9, 6] rfl (Ops_step (R_move rfl) rfl rfl (Ops_step (R_move rfl) rfl rfl ?_))
 refine Ops_call (C_func bd48 rfl) rfl rfl ?_
 refine (disk_Disk_able_ok (x1 := x1) (z0 := z0) hI.st (hg.up hI.le) htd0 hcd0_1 hsd0_1 hcd0_2 hsd0_2 hcd0_3 hsd0_3 h).mono ?_
 rintro _ w4_ ⟨r4_0, L4_, H4_, rfl, hI4_, h⟩
 refine Exists.elim (hI.call hI4_ (by simp)) fun L40_ h4_ => ?_
 have hz4_ := hI.size
 replace hI := h4_.1
 have u4_ := h4_.2.1
 have hl4_ := h4_.2.2
 clear h4_
 replace hsd0_1 := hsd0_1.up u4_.hh
 replace hsd0_2 := hsd0_2.up u4_.hh
 replace hsd0_3 := hsd0_3.up u4_.hh
 replace htd0 := htd0.up u4_ (by simp)
 clear hI4_ u4_ hl4_
 refine ⟨_, rfl, ?_⟩
 refine Ops_step (R_assign rfl) rfl rfl ?_
 refine Ops_nil ?_
 refine then_n (k3 _ _ ?_)
 clear k3 K3
 refine W_seq_k fun K5 k5 => ?_
 refine W_region [10, 11] rfl (Ops_step (R_move rfl) rfl rfl (Ops_step (R_neq rfl rfl) rfl rfl ?_))
 refine Ops_nil ?_
 refine then_n (k5 _ _ ?_)
 clear k5 K5
 refine W_keepB [0, 1, 6, 11] fun B_ b_ => ?_
 simp only [e_, Nat.reduceAdd, Nat.reduceBEq] at b_
 subst b_
 refine W_if rfl (fun hc7_ => ?_) (fun hc7_ => ?_)
 ·
  replace h := h.1 hc7_
  refine W_seq_k fun K8 k8 => ?_
  refine W_region [12, 4, 5] rfl (Ops_step (R_move rfl) rfl rfl (Ops_step (R_assign rfl) rfl rfl (Ops_step (R_assign rfl) rfl rfl ?_)))
  refine Ops_nil ?_
  refine then_n (k8 _ _ ?_)
  clear k8 K8
  refine W_ret ?_
  refine then_ret ?_
  clear k2 K2
  refine ⟨_, ⟨_, _, rfl, rfl, ⟨_, _, rfl, rfl, rfl⟩⟩, ?_⟩
  exact ⟨none, 0, [], r4_0, _, _, rfl, hI, OwnS.nil, h⟩
 ·
  replace h := h.2 hc7_
  refine W_skip ?_
  refine then_n (k2 _ _ ?_)
  clear k2 K2
  refine W_seq_k fun K9 k9 => ?_
  refine W_region [13, 14, 15, 16, 17, 18, 19, 20, 4, 5] rfl ?_
  refine Ops_to (R_buildSlice0 el29) rfl rfl ?_
  rintro _ w10_ ⟨b10_, rfl, hb10_, hB10_, hF10_⟩
  have ho10_ : OwnS w.heap.size 5 Gh.no H4_ _ (some ⟨b10_, 0, none⟩) 0 ([] : List UInt8) := OwnS.ofBlk hI.st hb10_ hB10_ (all2_sc' _) rfl (by have := hI.size; omega) (by show 0 ≤ maxLen; decide)
  replace hI := hI.fr0 hF10_
  replace htd0 := htd0.fr0 hF10_
  clear hF10_ hB10_
  refine Ops_step (R_move rfl) rfl rfl (Ops_step (R_move rfl) rfl rfl (Ops_step (R_nilCheck rfl) rfl rfl (Ops_step (R_fieldAddr fo53_0 rfl) rfl rfl ?_)))
  have hk11_ := h.1
  replace h := h.2
  refine split3 hk11_ (fun hi11_ => ?_) (fun hi11_ => ?_) (fun hi11_ => ?_)
  ·
   replace h := h.1 hi11_
   refine Ops_step (R_indexArrK Try.underlying51 sz29 rfl rfl hi11_ (by decide)) rfl rfl ?_
   refine Ops_step (R_loadB (v := .slice Ad0_1 z0.files_.e0_.length cd0_1) ag29 rfl htd0.blk rfl) rfl rfl ?_
   have hk13_ := h.1
   replace h := h.2
   refine Ops_to (X_append (α := UInt8) (xs := ([] : List UInt8)) (ys := z0.files_.e0_) el29 rfl rfl ho10_ (Srcs.sc (Srcs.ofSl Try.underlying29 hsd0_1 hI.st (by decide))) hI.st hk13_ (by decide) hI.size) rfl rfl ?_
   rintro _ w12_ ⟨A12_, c12_, rfl, ho12_, hF12_, hbk12_⟩
   clear hbk12_
   replace hI := hI.tok hF12_ ho10_.out (ho10_.new (Nat.le_refl _))
   replace htd0 := htd0.fr hF12_ (ho10_.old hlt_d0)
   clear hF12_ ho10_
   refine Ops_step (R_assign rfl) rfl rfl (Ops_step (R_assign rfl) rfl rfl ?_)
   refine Ops_nil ?_
   refine then_n (k9 _ _ ?_)
   clear k9 K9
   refine W_keepB [4, 5] fun B_ b_ => ?_
   simp only [e_, Nat.reduceAdd, Nat.reduceBEq] at b_
   subst b_
   refine W_ret ?_
   refine ⟨_, ⟨_, _, rfl, rfl, ⟨_, _, rfl, rfl, rfl⟩⟩, ?_⟩
   exact ⟨A12_, c12_, (([] : List UInt8) ++ z0.files_.e0_), 0, _, _, rfl, hI, (ho12_.hl (Le.no _)), h⟩
  ·
   replace h := h.2.1 hi11_
   refine Ops_step (R_indexArrK Try.underlying51 sz29 rfl rfl hi11_ (by decide)) rfl rfl ?_
   refine Ops_step (R_loadB (v := .slice Ad0_2 z0.files_.e1_.length cd0_2) ag29 rfl htd0.blk rfl) rfl rfl ?_
   have hk16_ := h.1
   replace h := h.2
   refine Ops_to (X_append (α := UInt8) (xs := ([] : List UInt8)) (ys := z0.files_.e1_) el29 rfl rfl ho10_ (Srcs.sc (Srcs.ofSl Try.underlying29 hsd0_2 hI.st (by decide))) hI.st hk16_ (by decide) hI.size) rfl rfl ?_
   rintro _ w15_ ⟨A15_, c15_, rfl, ho15_, hF15_, hbk15_⟩
   clear hbk15_
   replace hI := hI.tok hF15_ ho10_.out (ho10_.new (Nat.le_refl _))
   replace htd0 := htd0.fr hF15_ (ho10_.old hlt_d0)
   clear hF15_ ho10_
   refine Ops_step (R_assign rfl) rfl rfl (Ops_step (R_assign rfl) rfl rfl ?_)
   refine Ops_nil ?_
   refine then_n (k9 _ _ ?_)
   clear k9 K9
   refine W_keepB [4, 5] fun B_ b_ => ?_
   simp only [e_, Nat.reduceAdd, Nat.reduceBEq] at b_
   subst b_
   refine W_ret ?_
   refine ⟨_, ⟨_, _, rfl, rfl, ⟨_, _, rfl, rfl, rfl⟩⟩, ?_⟩
   exact ⟨A15_, c15_, (([] : List UInt8) ++ z0.files_.e1_), 0, _, _, rfl, hI, (ho15_.hl (Le.no _)), h⟩
  ·
   replace h := h.2.2 hi11_
   refine Ops_step (R_indexArrK Try.underlying51 sz29 rfl rfl hi11_ (by decide)) rfl rfl ?_
   refine Ops_step (R_loadB (v := .slice Ad0_3 z0.files_.e2_.length cd0_3) ag29 rfl htd0.blk rfl) rfl rfl ?_
   have hk19_ := h.1
   replace h := h.2
   refine Ops_to (X_append (α := UInt8) (xs := ([] : List UInt8)) (ys := z0.files_.e2_) el29 rfl rfl ho10_ (Srcs.sc (Srcs.ofSl Try.underlying29 hsd0_3 hI.st (by decide))) hI.st hk19_ (by decide) hI.size) rfl rfl ?_
   rintro _ w18_ ⟨A18_, c18_, rfl, ho18_, hF18_, hbk18_⟩
   clear hbk18_
   replace hI := hI.tok hF18_ ho10_.out (ho10_.new (Nat.le_refl _))
   replace htd0 := htd0.fr hF18_ (ho10_.old hlt_d0)
   clear hF18_ ho10_
   refine Ops_step (R_assign rfl) rfl rfl (Ops_step (R_assign rfl) rfl rfl ?_)
   refine Ops_nil ?_
   refine then_n (k9 _ _ ?_)
   clear k9 K9
   refine W_keepB [4, 5] fun B_ b_ => ?_
   simp only [e_, Nat.reduceAdd, Nat.reduceBEq] at b_
   subst b_
   refine W_ret ?_
   refine ⟨_, ⟨_, _, rfl, rfl, ⟨_, _, rfl, rfl, rfl⟩⟩, ?_⟩
   exact ⟨A18_, c18_, (([] : List UInt8) ++ z0.files_.e2_), 0, _, _, rfl, hI, (ho18_.hl (Le.no _)), h⟩

theorem octet_Read_ok {G : Gh} {w : World} (hS : St G w) (hg : GL G) {A0 : Option Addr} {c0 : Nat} {x0 : List UInt8} (hc0 : x0.length ≤ c0) (hs0 : Sl G A0 x0) {Q : octet_Reader → Prop} (h : octet_Read x0 Q) : Calls Try.prog 67 #[.slice A0 x0.length c0] w fun e w2 => ∃ (o0 : Nat) (y0 : octet_Reader) (Ay0_1 : Option Addr) (cy0_1 : Nat) (L H : Gh), e = .returned (.pointer (some ⟨o0, 0, none⟩)) ∧ Inv [] G w L H w2 ∧ w.heap.size ≤ o0 ∧ Tok H w2 o0 120 ([.slice Ay0_1 y0.source_.b_.length cy0_1, vi y0.source_.at_, vi y0.source_.err_, .bool y0.source_.made_]) ∧ y0.source_.b_.length ≤ cy0_1 ∧ Sl H Ay0_1 y0.source_.b_ ∧ Q y0 := by
 unfold octet_Read at h
 have hI := Inv.start (M := []) hS
 refine calls_W 9 Try.func67 rfl Try.ntmps67 rfl [.tmp 2] rfl ?_
 refine W_seq_k fun K1 k1 => ?_
 refine W_region [2] rfl (Ops_step (R_assign rfl) rfl rfl ?_)
 refine Ops_nil ?_
 refine then_n (k1 _ _ ?_)
 clear k1 K1
 refine W_seq_k fun K2 k2 => ?_
 refine W_region [3, 4, 5, 6, 7, 8, 2] rfl ?_
 refine Ops_to (R_buildSlice0 el29) rfl rfl ?_
 rintro _ w3_ ⟨b3_, rfl, hb3_, hB3_, hF3_⟩
 have ho3_ : OwnS w.heap.size 5 Gh.no G _ (some ⟨b3_, 0, none⟩) 0 ([] : List UInt8) := OwnS.ofBlk hI.st hb3_ hB3_ (all2_sc' _) rfl (by have := hI.size; omega) (by show 0 ≤ maxLen; decide)
 replace hI := hI.fr0 hF3_
 clear hF3_ hB3_
 refine Ops_step (R_move rfl) rfl rfl ?_
 have hk5_ := h.1
 replace h := h.2
 refine Ops_to (X_append (α := UInt8) (xs := ([] : List UInt8)) (ys := x0) el29 rfl rfl ho3_ (Srcs.sc (Srcs.ofSl Try.underlying29 hs0 hI.st (by decide))) hI.st hk5_ (by decide) hI.size) rfl rfl ?_
 rintro _ w4_ ⟨A4_, c4_, rfl, ho4_, hF4_, hbk4_⟩
 clear hbk4_
 replace hI := hI.tok hF4_ ho3_.out (ho3_.new (Nat.le_refl _))
 clear hF4_ ho3_
 refine Exists.elim (ho4_.freeze hI) fun L6_ h6_ => Exists.elim h6_ fun H6_ h6_ => ?_
 replace hI := h6_.1
 have u6_ := h6_.2.1
 have hs6_ := h6_.2.2.1 (Le.no _)
 have hc6_ := ho4_.cap
 clear h6_ u6_ ho4_
 refine Ops_step (R_build (pl := [(0, 1), (3, 1)]) (cs := [.slice A4_ ((([] : List UInt8) ++ x0).length) c4_, vi 0, vi 0, .bool true]) zr118 pl118 rfl rfl rfl) rfl rfl ?_
 refine Ops_step (R_build (pl := [(0, 4)]) (cs := [.slice A4_ ((([] : List UInt8) ++ x0).length) c4_, vi 0, vi 0, .bool true]) zr120 pl120 rfl rfl rfl) rfl rfl ?_
 have hI0_ := hI
 refine Ops_to (R_box rfl) rfl rfl ?_
 rintro _ w7_ ⟨b7_, rfl, hb7_, hB7_, hF7_⟩
 replace hI := hI.fr0 hF7_
 have ht7_ : Tok H6_ _ b7_ 120 ([.slice A4_ ((([] : List UInt8) ++ x0).length) c4_, vi 0, vi 0, .bool true]) := ⟨hB7_.to rfl, Out.ge hI0_.st (Nat.le_of_eq hb7_.symm)⟩
 have hge_b7_ : w.heap.size ≤ b7_ := hb7_ ▸ hI0_.size
 clear hB7_ hb7_ hI0_ hF7_
 refine Ops_step (R_assign rfl) rfl rfl ?_
 refine Ops_nil ?_
 refine then_n (k2 _ _ ?_)
 clear k2 K2
 refine W_keepB [2] fun B_ b_ => ?_
 simp only [e_, Nat.reduceAdd, Nat.reduceBEq] at b_
 subst b_
 refine W_ret ?_
 refine ⟨_, ⟨_, _, rfl, rfl, rfl⟩, ?_⟩
 exact ⟨b7_, (octet_Reader.mk (octet_source.mk (([] : List UInt8) ++ x0) 0 0 true)), A4_, c4_, _, _, rfl, hI, hge_b7_, ht7_, hc6_, (hs6_.up hI.sub), h⟩

theorem octet_Reader_dead_ok {G : Gh} {w : World} (hS : St G w) (hg : GL G) {d0 : Nat} {z0 : octet_Reader} {Ad0_1 : Option Addr} {cd0_1 : Nat} (htd0 : Tok G w d0 120 ([.slice Ad0_1 z0.source_.b_.length cd0_1, vi z0.source_.at_, vi z0.source_.err_, .bool z0.source_.made_])) (hcd0_1 : z0.source_.b_.length ≤ cd0_1) (hsd0_1 : Sl G Ad0_1 z0.source_.b_) {Q : Bool → Prop} (h : octet_Reader_dead z0 Q) : Calls Try.prog 81 #[.pointer (some ⟨d0, 0, none⟩)] w fun e w2 => ∃ (r0 : Bool) (L H : Gh), e = .returned (.bool r0) ∧ Inv [] G w L H w2 ∧ Q r0 := by
 unfold octet_Reader_dead at h
 have hI := Inv.start (M := []) hS
 refine calls_W 13 Try.func81 rfl Try.ntmps81 rfl [.tmp 2] rfl ?_
 have hlt_d0 := htd0.blk.lt
 refine W_seq_k fun K1 k1 => ?_
 refine W_region [2] rfl (Ops_step (R_assign rfl) rfl rfl ?_)
 refine Ops_nil ?_
 refine then_n (k1 _ _ ?_)
 clear k1 K1
 refine W_seq_k fun K2 k2 => ?_
 refine W_region [3, 4, 5, 6, 7, 8, 9, 10, 11, 12, 2] rfl (Ops_step (R_move rfl) rfl rfl (Ops_step (R_ptrNil Try.underlying103 rfl rfl) rfl rfl (Ops_step (R_move rfl) rfl rfl (Ops_step (R_move rfl) rfl rfl ?_))))
 refine Ops_step (R_nilCheck rfl) rfl rfl (Ops_step (R_fieldAddr fo120_0 rfl) rfl rfl (Ops_step (R_fieldAddr fo118_3 rfl) rfl rfl ?_))
 refine Ops_step (R_loadB (v := .bool z0.source_.made_) ag4 rfl htd0.blk rfl) rfl rfl ?_
 refine Ops_step (R_not rfl) rfl rfl (Ops_step (R_pick_false rfl rfl) rfl rfl (Ops_step (R_assign rfl) rfl rfl ?_))
 refine Ops_nil ?_
 refine then_n (k2 _ _ ?_)
 clear k2 K2
 refine W_keepB [2] fun B_ b_ => ?_
 simp only [e_, Nat.reduceAdd, Nat.reduceBEq] at b_
 subst b_
 refine W_ret ?_
 refine ⟨_, ⟨_, _, rfl, rfl, rfl⟩, ?_⟩
 exact ⟨(!z0.source_.made_), _, _, rfl, hI, h⟩

theorem octet_source_take_ok {G : Gh} {w : World} (hS : St G w) (hg : GL G) {d0 : Nat} {z0 : octet_source} {Ad0_1 : Option Addr} {cd0_1 : Nat} (htd0 : Tok G w d0 120 ([.slice Ad0_1 z0.b_.length cd0_1, vi z0.at_, vi z0.err_, .bool z0.made_])) (hcd0_1 : z0.b_.length ≤ cd0_1) (hsd0_1 : Sl G Ad0_1 z0.b_) {x1 : Int} {Q : (List UInt8) → octet_source → Prop} (h : octet_source_take z0 x1 Q) : Calls Try.prog 91 #[.pointer (some ⟨d0, 0, none⟩), vi x1] w fun e w2 => ∃ (A0 : Option Addr) (c0 : Nat) (r0 : List UInt8) (y0 : octet_source) (Ay0_1 : Option Addr) (cy0_1 : Nat) (L H : Gh), e = .returned (.slice A0 r0.length c0) ∧ Inv [d0] G w L H w2 ∧ r0.length ≤ c0 ∧ Sl H A0 r0 ∧ Tok H w2 d0 120 ([.slice Ay0_1 y0.b_.length cy0_1, vi y0.at_, vi y0.err_, .bool y0.made_]) ∧ y0.b_.length ≤ cy0_1 ∧ Sl H Ay0_1 y0.b_ ∧ Q r0 y0 := by
 unfold octet_source_take at h
 have hI := Inv.start (M := [d0]) hS
 refine calls_W 48 Try.func91 rfl Try.ntmps91 rfl [.tmp 4] rfl ?_
 have hlt_d0 := htd0.blk.lt
 refine W_seq_k fun K1 k1 => ?_
 refine W_region [4] rfl (Ops_step (R_assign rfl) rfl rfl ?_)
 refine Ops_nil ?_
 refine then_n (k1 _ _ ?_)
 clear k1 K1
 refine W_seq_k fun K2 k2 => ?_
 refine W_seq_k fun K3 k3 => ?_
 refine W_region [5, 6, 7, 8, 9] rfl (Ops_step (R_move rfl) rfl rfl (Ops_step (R_nilCheck rfl) rfl rfl (Ops_step (R_fieldAddr fo118_2 rfl) rfl rfl ?_)))
 refine Ops_step (R_loadB (v := vi z0.err_) ag32 rfl htd0.blk rfl) rfl rfl ?_
 refine Ops_step (R_neq rfl rfl) rfl rfl ?_
 refine Ops_nil ?_
 refine then_n (k3 _ _ ?_)
 clear k3 K3
 refine W_if rfl (fun hc4_ => ?_) (fun hc4_ => ?_)
 ·
  replace h := h.1 hc4_
  refine W_seq_k fun K5 k5 => ?_
  refine W_region [4] rfl (Ops_step (R_assign rfl) rfl rfl ?_)
  refine Ops_nil ?_
  refine then_n (k5 _ _ ?_)
  clear k5 K5
  refine W_keepB [4] fun B_ b_ => ?_
  simp only [e_, Nat.reduceAdd, Nat.reduceBEq] at b_
  subst b_
  refine W_ret ?_
  refine then_ret ?_
  clear k2 K2
  refine ⟨_, ⟨_, _, rfl, rfl, rfl⟩, ?_⟩
  exact ⟨none, 0, [], z0, Ad0_1, cd0_1, _, _, rfl, hI, (Nat.le_refl 0), Sl.nil, htd0, hcd0_1, hsd0_1, h⟩
 ·
  replace h := h.2 hc4_
  refine W_skip ?_
  refine then_n (k2 _ _ ?_)
  clear k2 K2
  refine W_keepB [0, 1] fun B_ b_ => ?_
  simp only [e_, Nat.reduceAdd, Nat.reduceBEq] at b_
  subst b_
  refine W_seq_k fun K8 k8 => ?_
  refine W_seq_k fun K9 k9 => ?_
  refine W_drawF [10, 11, 12, 13, 14, 15, 16, 17, 18, 19, 20, 21] [(0, true), (1, true), (2, true), (3, true), (4, true), (5, true), (6, true), (7, true), (8, true), (9, true), (10, true), (11, true)] TJtA.hm rfl (by kernel_rfl) fun ops10_ w10_ hops10_ hF10_ => ?_
  replace hI := hI.fr0 hF10_
  replace htd0 := htd0.fr0 hF10_
  clear hF10_
  refine HSp (R_move rfl) rfl rfl (HSp (R_move rfl) rfl rfl (HSp (R_nilCheck rfl) rfl rfl (HSp (R_fieldAddr fo118_0 rfl) rfl rfl ?_)))
  refine HS_loadB (v := .slice Ad0_1 z0.b_.length cd0_1) ag29 rfl htd0.blk rfl rfl rfl ?_
  refine HSp (R_len Try.underlying29 rfl rfl) rfl rfl (HSp (R_move rfl) rfl rfl (HSp (R_nilCheck rfl) rfl rfl (HSp (R_fieldAddr fo118_1 rfl) rfl rfl ?_)))
  refine HS_loadB (v := vi z0.at_) ag3 rfl htd0.blk rfl rfl rfl ?_
  have hk11_ := h.1
  replace h := h.2
  refine HSp (R_sub rfl rfl (wI hk11_.1 hk11_.2)) rfl rfl (HSp (R_gtr rfl rfl) rfl rfl ?_)
  refine HS_nil ?_
  clear hops10_
  refine then_n (k9 _ _ ?_)
  clear k9 K9
  refine W_keepB [0, 1, 21] fun B_ b_ => ?_
  simp only [e_, Nat.reduceAdd, Nat.reduceBEq] at b_
  subst b_
  refine W_if rfl (fun hc13_ => ?_) (fun hc13_ => ?_)
  ·
   replace h := h.1 hc13_
   refine W_seq_k fun K14 k14 => ?_
   refine W_region [22, 23, 24, none] rfl (Ops_step (R_move rfl) rfl rfl (Ops_step (R_nilCheck rfl) rfl rfl (Ops_step (R_fieldAddr fo118_2 rfl) rfl rfl ?_)))
   refine Ops_to0 (R_store sz32 rfl rfl htd0.blk (by show 2 < 4; decide) rfl) rfl ?_
   rintro _ w15_ ⟨hB15_, hF15_⟩
   replace hI := hI.tok hF15_ (out1 htd0.out) (mem1 (by simp))
   replace htd0 : Tok G _ d0 120 ([.slice Ad0_1 z0.b_.length cd0_1, vi z0.at_, vi 2, .bool z0.made_]) := ⟨hB15_, htd0.out⟩
   clear hF15_ hB15_
   refine Ops_nil ?_
   refine then_n (k14 _ _ ?_)
   clear k14 K14
   refine W_keepB [] fun B_ b_ => ?_
   simp only [e_, Nat.reduceAdd, Nat.reduceBEq] at b_
   subst b_
   refine W_seq_k fun K17 k17 => ?_
   refine W_region [4] rfl (Ops_step (R_assign rfl) rfl rfl ?_)
   refine Ops_nil ?_
   refine then_n (k17 _ _ ?_)
   clear k17 K17
   refine W_ret ?_
   refine then_ret ?_
   clear k8 K8
   refine ⟨_, ⟨_, _, rfl, rfl, rfl⟩, ?_⟩
   exact ⟨none, 0, [], (octet_source.mk z0.b_ z0.at_ 2 z0.made_), Ad0_1, cd0_1, _, _, rfl, hI, (Nat.le_refl 0), Sl.nil, htd0, hcd0_1, hsd0_1, h⟩
  ·
   replace h := h.2 hc13_
   refine W_skip ?_
   refine then_n (k8 _ _ ?_)
   clear k8 K8
   refine W_seq_k fun K18 k18 => ?_
   refine W_region [25, 26, 27, 28, 29, 30, 31, 32, none] rfl (Ops_step (R_move rfl) rfl rfl (Ops_step (R_nilCheck rfl) rfl rfl (Ops_step (R_fieldAddr fo118_1 rfl) rfl rfl ?_)))
   refine Ops_step (R_loadB (v := vi z0.at_) ag3 rfl htd0.blk rfl) rfl rfl ?_
   refine Ops_step (R_move rfl) rfl rfl ?_
   have hk19_ := h.1
   replace h := h.2
   refine Ops_step (R_add rfl rfl (wI hk19_.1 hk19_.2)) rfl rfl (Ops_step (R_nilCheck rfl) rfl rfl (Ops_step (R_fieldAddr fo118_1 rfl) rfl rfl ?_))
   refine Ops_to0 (R_store sz3 rfl rfl htd0.blk (by show 1 < 4; decide) rfl) rfl ?_
   rintro _ w20_ ⟨hB20_, hF20_⟩
   replace hI := hI.tok hF20_ (out1 htd0.out) (mem1 (by simp))
   replace htd0 : Tok G _ d0 120 ([.slice Ad0_1 z0.b_.length cd0_1, vi (z0.at_ + x1), vi z0.err_, .bool z0.made_]) := ⟨hB20_, htd0.out⟩
   clear hF20_ hB20_
   refine Ops_nil ?_
   refine then_n (k18 _ _ ?_)
   clear k18 K18
   refine W_keepB [0, 1] fun B_ b_ => ?_
   simp only [e_, Nat.reduceAdd, Nat.reduceBEq] at b_
   subst b_
   refine W_seq_k fun K22 k22 => ?_
   refine W_drawF [33, 34, 35, 36, 37, 38, 39, 40, 41, 42, 43, 44, 45, 46, 47, 4] [(0, true), (1, true), (2, true), (3, true), (4, true), (5, true), (6, true), (7, true), (8, true), (9, true), (10, true), (11, true), (12, true), (13, true), (14, true), (15, true)] TJtA.hm rfl (by kernel_rfl) fun ops23_ w23_ hops23_ hF23_ => ?_
   replace hI := hI.fr0 hF23_
   replace htd0 := htd0.fr0 hF23_
   clear hF23_
   refine HSp (R_move rfl) rfl rfl (HSp (R_nilCheck rfl) rfl rfl (HSp (R_fieldAddr fo118_0 rfl) rfl rfl ?_))
   refine HS_loadB (v := .slice Ad0_1 z0.b_.length cd0_1) ag29 rfl htd0.blk rfl rfl rfl ?_
   refine HSp (R_move rfl) rfl rfl (HSp (R_nilCheck rfl) rfl rfl (HSp (R_fieldAddr fo118_1 rfl) rfl rfl ?_))
   refine HS_loadB (v := vi (z0.at_ + x1)) ag3 rfl htd0.blk rfl rfl rfl ?_
   refine HSp (R_move rfl) rfl rfl ?_
   have hk24_ := h.1
   replace h := h.2
   refine HSp (R_sub rfl rfl (wI hk24_.1 hk24_.2)) rfl rfl (HSp (R_move rfl) rfl rfl (HSp (R_nilCheck rfl) rfl rfl (HSp (R_fieldAddr fo118_1 rfl) rfl rfl ?_)))
   refine HS_loadB (v := vi (z0.at_ + x1)) ag3 rfl htd0.blk rfl rfl rfl ?_
   have hk26_ := h.1
   replace h := h.2
   have hk27_ := h.1
   replace h := h.2
   have hk28_ := h.1
   replace h := h.2
   refine Exists.elim (cut_ex (n := 1) (l := ((z0.at_ + x1) - x1)) (h := (z0.at_ + x1)) hsd0_1 rfl (by decide) hcd0_1 hk26_ hk27_ hk28_) fun A25_ h25_ => Exists.elim h25_ fun c25_ h25_ => ?_
   have hr25_ := h25_.1
   have hc25_ := h25_.2.1
   have hs25_ := h25_.2.2
   clear h25_
   refine HSp (X_slice (xs := z0.b_) Try.underlying29 sz5 rfl hr25_ hcd0_1 rfl rfl hk26_ hk27_ hk28_) rfl rfl ?_
   clear hr25_
   refine HSp (R_assign rfl) rfl rfl ?_
   refine HS_nil ?_
   clear hops23_
   refine then_n (k22 _ _ ?_)
   clear k22 K22
   refine W_keepB [4] fun B_ b_ => ?_
   simp only [e_, Nat.reduceAdd, Nat.reduceBEq] at b_
   subst b_
   refine W_ret ?_
   refine ⟨_, ⟨_, _, rfl, rfl, rfl⟩, ?_⟩
   exact ⟨A25_, c25_, (cut z0.b_ ((z0.at_ + x1) - x1) (z0.at_ + x1)), (octet_source.mk z0.b_ (z0.at_ + x1) z0.err_ z0.made_), Ad0_1, cd0_1, _, _, rfl, hI, hc25_, hs25_, htd0, hcd0_1, hsd0_1, h⟩

theorem octet_Reader_Number_ok {G : Gh} {w : World} (hS : St G w) (hg : GL G) {d0 : Nat} {z0 : octet_Reader} {Ad0_1 : Option Addr} {cd0_1 : Nat} (htd0 : Tok G w d0 120 ([.slice Ad0_1 z0.source_.b_.length cd0_1, vi z0.source_.at_, vi z0.source_.err_, .bool z0.source_.made_])) (hcd0_1 : z0.source_.b_.length ≤ cd0_1) (hsd0_1 : Sl G Ad0_1 z0.source_.b_) {Q : Int → octet_Reader → Prop} (h : octet_Reader_Number z0 Q) : Calls Try.prog 82 #[.pointer (some ⟨d0, 0, none⟩)] w fun e w2 => ∃ (r0 : Int) (y0 : octet_Reader) (Ay0_1 : Option Addr) (cy0_1 : Nat) (L H : Gh), e = .returned (vi r0) ∧ Inv [d0] G w L H w2 ∧ Tok H w2 d0 120 ([.slice Ay0_1 y0.source_.b_.length cy0_1, vi y0.source_.at_, vi y0.source_.err_, .bool y0.source_.made_]) ∧ y0.source_.b_.length ≤ cy0_1 ∧ Sl H Ay0_1 y0.source_.b_ ∧ Q r0 y0 := by
 unfold octet_Reader_Number at h
 have hI := Inv.start (M := [d0]) hS
 refine calls_W 43 Try.func82 rfl Try.ntmps82 rfl [.tmp 2] rfl ?_
 have hlt_d0 := htd0.blk.lt
 refine W_seq_k fun K1 k1 => ?_
 refine W_region [2] rfl (Ops_step (R_assign rfl) rfl rfl ?_)
 refine Ops_nil ?_
 refine then_n (k1 _ _ ?_)
 clear k1 K1
 refine W_seq_k fun K2 k2 => ?_
 refine W_seq_k fun K3 k3 => ?_
 refine W_region [7, 8] rfl (Ops_step (R_move rfl) rfl rfl ?_)
 refine Ops_call (C_func bd81 rfl) rfl rfl ?_
 refine (octet_Reader_dead_ok (z0 := z0) hI.st (hg.up hI.le) htd0 hcd0_1 hsd0_1 h).mono ?_
 rintro _ w4_ ⟨r4_0, L4_, H4_, rfl, hI4_, h⟩
 refine Exists.elim (hI.call hI4_ (by simp)) fun L40_ h4_ => ?_
 have hz4_ := hI.size
 replace hI := h4_.1
 have u4_ := h4_.2.1
 have hl4_ := h4_.2.2
 clear h4_
 replace hsd0_1 := hsd0_1.up u4_.hh
 replace htd0 := htd0.up u4_ (by simp)
 clear hI4_ u4_ hl4_
 refine ⟨_, rfl, ?_⟩
 refine Ops_nil ?_
 refine then_n (k3 _ _ ?_)
 clear k3 K3
 refine W_cond rfl (fun hc5_ => ?_) (fun hc5_ => ?_)
 ·
  replace h := h.1 hc5_
  refine W_seq_k fun K6 k6 => ?_
  refine W_region [2] rfl (Ops_step (R_assign rfl) rfl rfl ?_)
  refine Ops_nil ?_
  refine then_n (k6 _ _ ?_)
  clear k6 K6
  refine W_ret ?_
  refine then_ret ?_
  clear k2 K2
  refine ⟨_, ⟨_, _, rfl, rfl, rfl⟩, ?_⟩
  exact ⟨0, z0, Ad0_1, cd0_1, _, _, rfl, hI, htd0, hcd0_1, hsd0_1, h⟩
 ·
  replace h := h.2 hc5_
  refine W_skip ?_
  refine then_n (k2 _ _ ?_)
  clear k2 K2
  refine W_seq_k fun K7 k7 => ?_
  refine W_region [3] rfl (Ops_step (R_assign rfl) rfl rfl ?_)
  refine Ops_nil ?_
  refine then_n (k7 _ _ ?_)
  clear k7 K7
  refine W_seq_k fun K8 k8 => ?_
  refine W_region [9, 10, 11, 12, 4] rfl (Ops_step (R_move rfl) rfl rfl (Ops_step (R_nilCheck rfl) rfl rfl (Ops_step (R_fieldAddr fo120_0 rfl) rfl rfl ?_)))
  refine Ops_call (C_func bd91 rfl) rfl rfl ?_
  refine (octet_source_take_ok (x1 := 8) (z0 := z0.source_) hI.st (hg.up hI.le) htd0 hcd0_1 hsd0_1 h).mono ?_
  rintro _ w9_ ⟨A9_0, c9_0, r9_0, y9_o0, A9_o0_1, c9_o0_1, L9_, H9_, rfl, hI9_, hc9_0, hs9_0, ht9_o0, hc9_o0_1, hs9_o0_1, h⟩
  refine Exists.elim (hI.call hI9_ (mem1 (by simp))) fun L90_ h9_ => ?_
  have hz9_ := hI.size
  replace hI := h9_.1
  have u9_ := h9_.2.1
  have hl9_ := h9_.2.2
  clear h9_
  replace hsd0_1 := hsd0_1.up u9_.hh
  clear htd0
  replace hs9_0 := hs9_0.up (Le.refl _)
  clear hI9_ u9_ hl9_
  refine ⟨_, rfl, ?_⟩
  refine Ops_step (R_assign rfl) rfl rfl ?_
  refine Ops_nil ?_
  refine then_n (k8 _ _ ?_)
  clear k8 K8
  refine W_keepB [0, 3, 4] fun B_ b_ => ?_
  simp only [e_, Nat.reduceAdd, Nat.reduceBEq] at b_
  subst b_
  refine ex_ h fun J11_ hr11_ h => ?_
  refine W_seq_join [0] [3] (fun vals_ w2 => ∃ (x3_11 : BitVec 64) (L H : Gh), vals_ = [w64 x3_11] ∧ J11_ x3_11 ∧ Inv [d0] G w L H w2 ∧ Le L90_ L ∧ Le H9_ H ∧ Tok H w2 d0 120 ([.slice A9_o0_1 y9_o0.b_.length c9_o0_1, vi y9_o0.at_, vi y9_o0.err_, .bool y9_o0.made_]) ∧ True) (fun B_ b_ => ?_) (fun B_ b_ => ?_)
  ·
   simp only [e_, Nat.reduceAdd, Nat.reduceBEq] at b_
   subst b_
   clear hr11_
   have hll11_ := Le.refl L90_
   have hhh11_ := Le.refl H9_
   refine W_seq_k fun K12 k12 => ?_
   refine W_region [13, 14, 15] rfl (Ops_step (R_move rfl) rfl rfl (Ops_step (R_len Try.underlying29 rfl rfl) rfl rfl (Ops_step (R_move rfl) rfl rfl ?_)))
   refine Ops_nil ?_
   refine then_n (k12 _ _ ?_)
   clear k12 K12
   refine W_block ?_
   refine Exists.elim h fun I13_ h => Exists.elim h fun n13_ h => ?_
   have h0_ := h.1
   have hs13_ := h.2
   clear h
   refine W_loopB [0, 13, 14] [3, 15] (fun m vals_ w2 => ∃ (x3_13 : BitVec 64) (x15_13 : Int) (L H : Gh), vals_ = [w64 x3_13, vi x15_13] ∧ I13_ m x3_13 x15_13 ∧ Inv [d0] G w L H w2 ∧ Le L90_ L ∧ Le H9_ H ∧ Tok H w2 d0 120 ([.slice A9_o0_1 y9_o0.b_.length c9_o0_1, vi y9_o0.at_, vi y9_o0.err_, .bool y9_o0.made_]) ∧ True) n13_ _ rfl ⟨(0#64), 0, _, _, rfl, h0_, hI, Le.refl _, Le.refl _, ht9_o0, trivial⟩ fun B_ b_ => ?_
   clear h0_
   simp only [e_, Nat.reduceAdd, Nat.reduceBEq] at b_
   subst b_
   clear ht9_o0
   rintro m13_ _ w13_ ⟨x3_13, x15_13, L13_, H13_, rfl, hJ13_, hI13_, hll13_, hhh13_, ht9_o0, -⟩
   replace hI := hI13_
   clear hI13_
   have h := hs13_ m13_ x3_13 x15_13 hJ13_
   clear hs13_ hJ13_
   replace hs9_o0_1 := hs9_o0_1.up hhh13_
   replace hs9_0 := hs9_0.up hhh13_
   replace hll11_ := hll11_.trans hll13_
   replace hhh11_ := hhh11_.trans hhh13_
   refine W_seq_k fun K14 k14 => ?_
   refine W_region [16] rfl (Ops_step (R_lss rfl rfl) rfl rfl ?_)
   refine Ops_nil ?_
   refine then_n (k14 _ _ ?_)
   clear k14 K14
   refine W_seq_k fun K15 k15 => ?_
   refine W_if rfl (fun hc16_ => ?_) (fun hc16_ => ?_)
   ·
    replace h := h.1 hc16_
    refine W_skip ?_
    refine then_n (k15 _ _ ?_)
    clear k15 K15
    refine W_seq_k fun K17 k17 => ?_
    refine W_block ?_
    refine W_seq_k fun K18 k18 => ?_
    refine W_region [17, 18, 6] rfl ?_
    refine ex_ h fun x19_ hx19_ h => ?_
    have ha19_ := (hs9_0.atS hx19_).1
    have hg19_ := (hs9_0.atS hx19_).2
    refine Ops_step (R_indexSl Try.underlying29 sz5 rfl rfl hx19_.1 hx19_.lt ha19_) rfl rfl (Ops_step (R_load ag5 rfl (hI.st _ _ hg19_)) rfl rfl (Ops_step (R_assign rfl) rfl rfl ?_))
    refine Ops_nil ?_
    refine then_n (k18 _ _ ?_)
    clear k18 K18
    refine W_region [19, 20, 21, 22, 23, 3] rfl (Ops_step (R_move rfl) rfl rfl (Ops_step (R_shl rfl rfl (by decide) (shl64 x3_13 8 (by decide))) rfl rfl (Ops_step (R_move rfl) rfl rfl (Ops_step (R_conv Try.underlying5 Try.underlying126 rfl (c8_64 _)) rfl rfl ?_))))
    refine Ops_step (R_or rfl rfl (or64 (x3_13 <<< (8 : Nat)) (x19_.toBitVec.setWidth 64))) rfl rfl (Ops_step (R_assign rfl) rfl rfl ?_)
    refine Ops_nil ?_
    refine block_n ?_
    refine then_n (k17 _ _ ?_)
    clear k17 K17
    refine W_keepB [0, 3, 13, 14, 15] fun B_ b_ => ?_
    simp only [e_, Nat.reduceAdd, Nat.reduceBEq] at b_
    subst b_
    refine W_region [24, 15] rfl ?_
    have hk21_ := h.1
    replace h := h.2
    refine Ops_step (R_add rfl rfl (wI hk21_.1 hk21_.2)) rfl rfl (Ops_step (R_move rfl) rfl rfl ?_)
    refine Ops_nil ?_
    refine then_n ?_
    exact h.elim fun m_ h => ⟨m_, _, h.1, rfl, ⟨((x3_13 <<< (8 : Nat)) ||| (x19_.toBitVec.setWidth 64)), (x15_13 + 1), _, _, rfl, h.2, hI, hll13_, hhh13_, ht9_o0, trivial⟩, ⟨rfl, rfl, rfl, trivial⟩⟩
   ·
    replace h := h.2 hc16_
    refine W_exit ?_
    refine then_exit ?_
    clear k15 K15
    refine then_exit ?_
    refine block_exit ?_
    refine then_n ?_
    exact ⟨_, rfl, ⟨x3_13, _, _, rfl, h, hI, hll11_, hhh11_, ht9_o0, trivial⟩, ⟨rfl, trivial⟩⟩
  ·
   simp only [e_, Nat.reduceAdd, Nat.reduceBEq] at b_
   subst b_
   clear h
   clear ht9_o0
   rintro _ w11_ ⟨x3_11, L11_, H11_, rfl, hJ11_, hI11_, hll11_, hhh11_, ht9_o0, -⟩
   replace hI := hI11_
   clear hI11_
   have h := hr11_ x3_11 hJ11_
   clear hr11_ hJ11_
   replace hs9_o0_1 := hs9_o0_1.up hhh11_
   refine W_seq_k fun K22 k22 => ?_
   refine W_seq_k fun K23 k23 => ?_
   refine W_region [25, 26] rfl (Ops_step (R_move rfl) rfl rfl (Ops_step (R_gtr rfl rfl) rfl rfl ?_))
   refine Ops_nil ?_
   refine then_n (k23 _ _ ?_)
   clear k23 K23
   refine W_if rfl (fun hc24_ => ?_) (fun hc24_ => ?_)
   ·
    replace h := h.1 hc24_
    refine W_seq_k fun K25 k25 => ?_
    refine W_region [27, 28, 29, 30, 31, 32, 33, 34, 35, 36, 37, none, 38, 39, 40, none] rfl (Ops_step (R_move rfl) rfl rfl (Ops_step (R_move rfl) rfl rfl (Ops_step (R_move rfl) rfl rfl (Ops_step (R_nilCheck rfl) rfl rfl ?_))))
    refine Ops_step (R_fieldAddr fo120_0 rfl) rfl rfl (Ops_step (R_fieldAddr fo118_1 rfl) rfl rfl ?_)
    refine Ops_step (R_loadB (v := vi y9_o0.at_) ag3 rfl ht9_o0.blk rfl) rfl rfl ?_
    have hk26_ := h.1
    replace h := h.2
    refine Ops_step (R_sub rfl rfl (wI hk26_.1 hk26_.2)) rfl rfl (Ops_step (R_nilCheck rfl) rfl rfl (Ops_step (R_fieldAddr fo120_0 rfl) rfl rfl (Ops_step (R_fieldAddr fo118_1 rfl) rfl rfl ?_)))
    refine Ops_to0 (R_store sz3 rfl rfl ht9_o0.blk (by show 1 < 4; decide) rfl) rfl ?_
    rintro _ w27_ ⟨hB27_, hF27_⟩
    replace hI := hI.tok hF27_ (out1 ht9_o0.out) (mem1 (by simp))
    replace ht9_o0 : Tok H11_ _ d0 120 ([.slice A9_o0_1 y9_o0.b_.length c9_o0_1, vi (y9_o0.at_ - 8), vi y9_o0.err_, .bool y9_o0.made_]) := ⟨hB27_, ht9_o0.out⟩
    clear hF27_ hB27_
    refine Ops_step (R_nilCheck rfl) rfl rfl (Ops_step (R_fieldAddr fo120_0 rfl) rfl rfl (Ops_step (R_fieldAddr fo118_2 rfl) rfl rfl ?_))
    refine Ops_to0 (R_store sz32 rfl rfl ht9_o0.blk (by show 2 < 4; decide) rfl) rfl ?_
    rintro _ w28_ ⟨hB28_, hF28_⟩
    replace hI := hI.tok hF28_ (out1 ht9_o0.out) (mem1 (by simp))
    replace ht9_o0 : Tok H11_ _ d0 120 ([.slice A9_o0_1 y9_o0.b_.length c9_o0_1, vi (y9_o0.at_ - 8), vi 5, .bool y9_o0.made_]) := ⟨hB28_, ht9_o0.out⟩
    clear hF28_ hB28_
    refine Ops_nil ?_
    refine then_n (k25 _ _ ?_)
    clear k25 K25
    refine W_keepB [] fun B_ b_ => ?_
    simp only [e_, Nat.reduceAdd, Nat.reduceBEq] at b_
    subst b_
    refine W_seq_k fun K30 k30 => ?_
    refine W_region [2] rfl (Ops_step (R_assign rfl) rfl rfl ?_)
    refine Ops_nil ?_
    refine then_n (k30 _ _ ?_)
    clear k30 K30
    refine W_ret ?_
    refine then_ret ?_
    clear k22 K22
    refine ⟨_, ⟨_, _, rfl, rfl, rfl⟩, ?_⟩
    exact ⟨0, (octet_Reader.mk (octet_source.mk y9_o0.b_ (y9_o0.at_ - 8) 5 y9_o0.made_)), A9_o0_1, c9_o0_1, _, _, rfl, hI, ht9_o0, hc9_o0_1, hs9_o0_1, h⟩
   ·
    replace h := h.2 hc24_
    refine W_skip ?_
    refine then_n (k22 _ _ ?_)
    clear k22 K22
    refine W_seq_k fun K31 k31 => ?_
    refine W_region [41, 42, 2] rfl (Ops_step (R_move rfl) rfl rfl ?_)
    have hk32_ := h.1
    replace h := h.2
    refine Ops_step (R_conv Try.underlying126 Try.underlying3 rfl (c64_I _ hk32_)) rfl rfl (Ops_step (R_assign rfl) rfl rfl ?_)
    refine Ops_nil ?_
    refine then_n (k31 _ _ ?_)
    clear k31 K31
    refine W_keepB [2] fun B_ b_ => ?_
    simp only [e_, Nat.reduceAdd, Nat.reduceBEq] at b_
    subst b_
    refine W_ret ?_
    refine ⟨_, ⟨_, _, rfl, rfl, rfl⟩, ?_⟩
    exact ⟨(x3_11.toNat : Int), (octet_Reader.mk y9_o0), A9_o0_1, c9_o0_1, _, _, rfl, hI, ht9_o0, hc9_o0_1, hs9_o0_1, h⟩

theorem octet_Reader_Bytes_ok {G : Gh} {w : World} (hS : St G w) (hg : GL G) {d0 : Nat} {z0 : octet_Reader} {Ad0_1 : Option Addr} {cd0_1 : Nat} (htd0 : Tok G w d0 120 ([.slice Ad0_1 z0.source_.b_.length cd0_1, vi z0.source_.at_, vi z0.source_.err_, .bool z0.source_.made_])) (hcd0_1 : z0.source_.b_.length ≤ cd0_1) (hsd0_1 : Sl G Ad0_1 z0.source_.b_) {x1 : Int} {Q : (List UInt8) → octet_Reader → Prop} (h : octet_Reader_Bytes z0 x1 Q) : Calls Try.prog 85 #[.pointer (some ⟨d0, 0, none⟩), vi x1] w fun e w2 => ∃ (A0 : Option Addr) (c0 : Nat) (r0 : List UInt8) (y0 : octet_Reader) (Ay0_1 : Option Addr) (cy0_1 : Nat) (L H : Gh), e = .returned (.slice A0 r0.length c0) ∧ Inv [d0] G w L H w2 ∧ OwnS w.heap.size 5 L H w2 A0 c0 r0 ∧ Tok H w2 d0 120 ([.slice Ay0_1 y0.source_.b_.length cy0_1, vi y0.source_.at_, vi y0.source_.err_, .bool y0.source_.made_]) ∧ y0.source_.b_.length ≤ cy0_1 ∧ Sl H Ay0_1 y0.source_.b_ ∧ Q r0 y0 := by
 unfold octet_Reader_Bytes at h
 have hI := Inv.start (M := [d0]) hS
 refine calls_W 60 Try.func85 rfl Try.ntmps85 rfl [.tmp 4] rfl ?_
 have hlt_d0 := htd0.blk.lt
 refine W_seq_k fun K1 k1 => ?_
 refine W_region [4] rfl (Ops_step (R_assign rfl) rfl rfl ?_)
 refine Ops_nil ?_
 refine then_n (k1 _ _ ?_)
 clear k1 K1
 refine W_seq_k fun K2 k2 => ?_
 refine ex_ h fun J3_ hr3_ h => ?_
 refine W_seq_join [0, 1] [17] (fun vals_ w2 => ∃ (x17_3 : Bool) (L H : Gh), vals_ = [.bool x17_3] ∧ J3_ x17_3 ∧ Inv [d0] G w L H w2 ∧ Le Gh.no L ∧ Le G H ∧ Tok H w2 d0 120 ([.slice Ad0_1 z0.source_.b_.length cd0_1, vi z0.source_.at_, vi z0.source_.err_, .bool z0.source_.made_]) ∧ True) (fun B_ b_ => ?_) (fun B_ b_ => ?_)
 ·
  simp only [e_, Nat.reduceAdd, Nat.reduceBEq] at b_
  subst b_
  clear hr3_
  have hll3_ := Le.refl Gh.no
  have hhh3_ := Le.refl G
  refine W_region [8, 9, 10, 11, 12, 13, 14, 15, 16, 17] rfl (Ops_step (R_move rfl) rfl rfl ?_)
  refine Ops_call (C_func bd81 rfl) rfl rfl ?_
  refine (octet_Reader_dead_ok (z0 := z0) hI.st (hg.up hI.le) htd0 hcd0_1 hsd0_1 h).mono ?_
  rintro _ w4_ ⟨r4_0, L4_, H4_, rfl, hI4_, h⟩
  refine Exists.elim (hI.call hI4_ (by simp)) fun L40_ h4_ => ?_
  have hz4_ := hI.size
  replace hI := h4_.1
  have u4_ := h4_.2.1
  have hl4_ := h4_.2.2
  clear h4_
  replace hsd0_1 := hsd0_1.up u4_.hh
  replace htd0 := htd0.up u4_ (by simp)
  replace hll3_ := hll3_.trans u4_.ll
  replace hhh3_ := hhh3_.trans u4_.hh
  clear hI4_ u4_ hl4_
  refine ⟨_, rfl, ?_⟩
  refine Ops_step (R_move rfl) rfl rfl ?_
  refine Ops_splitB 10 rfl (fun hg5_ => ?_) (fun hg5_ => ?_)
  ·
   replace h := h.1 hg5_
   refine Ops_pass rfl rfl (Ops_pass rfl rfl (Ops_pass rfl rfl (Ops_pass rfl rfl (Ops_pass rfl rfl ?_))))
   refine Ops_pass rfl rfl (Ops_step (R_pick_true rfl rfl) rfl rfl ?_)
   refine Ops_nil ?_
   refine then_n ?_
   exact ⟨_, rfl, ⟨true, _, _, rfl, h, hI, hll3_, hhh3_, htd0, trivial⟩, ⟨rfl, rfl, trivial⟩⟩
  ·
   replace h := h.2 hg5_
   refine Ops_step (R_move rfl) rfl rfl (Ops_step (R_nilCheck rfl) rfl rfl (Ops_step (R_fieldAddr fo120_0 rfl) rfl rfl (Ops_step (R_fieldAddr fo118_2 rfl) rfl rfl ?_)))
   refine Ops_step (R_loadB (v := vi z0.source_.err_) ag32 rfl htd0.blk rfl) rfl rfl ?_
   refine Ops_step (R_neq rfl rfl) rfl rfl (Ops_step (R_pick_false rfl rfl) rfl rfl ?_)
   refine Ops_nil ?_
   refine then_n ?_
   exact ⟨_, rfl, ⟨(decide (z0.source_.err_ ≠ 0)), _, _, rfl, h, hI, hll3_, hhh3_, htd0, trivial⟩, ⟨rfl, rfl, trivial⟩⟩
 ·
  simp only [e_, Nat.reduceAdd, Nat.reduceBEq] at b_
  subst b_
  clear h
  clear htd0
  rintro _ w3_ ⟨x17_3, L3_, H3_, rfl, hJ3_, hI3_, hll3_, hhh3_, htd0, -⟩
  replace hI := hI3_
  clear hI3_
  have h := hr3_ x17_3 hJ3_
  clear hr3_ hJ3_
  replace hsd0_1 := hsd0_1.up hhh3_
  refine W_cond rfl (fun hc6_ => ?_) (fun hc6_ => ?_)
  ·
   replace h := h.1 hc6_
   refine W_seq_k fun K7 k7 => ?_
   refine W_region [4] rfl (Ops_step (R_assign rfl) rfl rfl ?_)
   refine Ops_nil ?_
   refine then_n (k7 _ _ ?_)
   clear k7 K7
   refine W_ret ?_
   refine then_ret ?_
   clear k2 K2
   refine ⟨_, ⟨_, _, rfl, rfl, rfl⟩, ?_⟩
   exact ⟨none, 0, [], z0, Ad0_1, cd0_1, _, _, rfl, hI, OwnS.nil, htd0, hcd0_1, hsd0_1, h⟩
  ·
   replace h := h.2 hc6_
   refine W_skip ?_
   refine then_n (k2 _ _ ?_)
   clear k2 K2
   refine W_seq_k fun K8 k8 => ?_
   refine W_region [18, 19, 20, 21, 22, 5] rfl (Ops_step (R_move rfl) rfl rfl (Ops_step (R_nilCheck rfl) rfl rfl (Ops_step (R_fieldAddr fo120_0 rfl) rfl rfl (Ops_step (R_fieldAddr fo118_1 rfl) rfl rfl ?_))))
   refine Ops_step (R_loadB (v := vi z0.source_.at_) ag3 rfl htd0.blk rfl) rfl rfl ?_
   refine Ops_step (R_assign rfl) rfl rfl ?_
   refine Ops_nil ?_
   refine then_n (k8 _ _ ?_)
   clear k8 K8
   refine W_keepB [0, 1, 5] fun B_ b_ => ?_
   simp only [e_, Nat.reduceAdd, Nat.reduceBEq] at b_
   subst b_
   refine W_seq_k fun K10 k10 => ?_
   refine W_region [23, 24, 6] rfl (Ops_step (R_move rfl) rfl rfl ?_)
   refine Ops_call (C_func bd82 rfl) rfl rfl ?_
   refine (octet_Reader_Number_ok (z0 := z0) hI.st (hg.up hI.le) htd0 hcd0_1 hsd0_1 h).mono ?_
   rintro _ w11_ ⟨r11_0, y11_o0, A11_o0_1, c11_o0_1, L11_, H11_, rfl, hI11_, ht11_o0, hc11_o0_1, hs11_o0_1, h⟩
   refine Exists.elim (hI.call hI11_ (mem1 (by simp))) fun L110_ h11_ => ?_
   have hz11_ := hI.size
   replace hI := h11_.1
   have u11_ := h11_.2.1
   have hl11_ := h11_.2.2
   clear h11_
   replace hsd0_1 := hsd0_1.up u11_.hh
   clear htd0
   clear hI11_ u11_ hl11_
   refine ⟨_, rfl, ?_⟩
   refine Ops_step (R_assign rfl) rfl rfl ?_
   refine Ops_nil ?_
   refine then_n (k10 _ _ ?_)
   clear k10 K10
   refine ex_ h fun J12_ hr12_ h => ?_
   refine W_seq_join [0, 5, 6] [] (fun vals_ w2 => ∃ (yd0_12 : octet_Reader) (Ad0_12_1 : Option Addr) (cd0_12_1 : Nat) (L H : Gh), vals_ = [] ∧ J12_ yd0_12 ∧ Inv [d0] G w L H w2 ∧ Le L110_ L ∧ Le H11_ H ∧ Tok H w2 d0 120 ([.slice Ad0_12_1 yd0_12.source_.b_.length cd0_12_1, vi yd0_12.source_.at_, vi yd0_12.source_.err_, .bool yd0_12.source_.made_]) ∧ yd0_12.source_.b_.length ≤ cd0_12_1 ∧ Sl H Ad0_12_1 yd0_12.source_.b_ ∧ True) (fun B_ b_ => ?_) (fun B_ b_ => ?_)
   ·
    simp only [e_, Nat.reduceAdd, Nat.reduceBEq] at b_
    subst b_
    clear hr12_
    have hll12_ := Le.refl L110_
    have hhh12_ := Le.refl H11_
    refine ex_ h fun J13_ hr13_ h => ?_
    refine W_seq_join [0, 5, 6] [36] (fun vals_ w2 => ∃ (x36_13 : Bool) (L H : Gh), vals_ = [.bool x36_13] ∧ J13_ x36_13 ∧ Inv [d0] G w L H w2 ∧ Le L110_ L ∧ Le H11_ H ∧ Tok H w2 d0 120 ([.slice A11_o0_1 y11_o0.source_.b_.length c11_o0_1, vi y11_o0.source_.at_, vi y11_o0.source_.err_, .bool y11_o0.source_.made_]) ∧ True) (fun B_ b_ => ?_) (fun B_ b_ => ?_)
    ·
     simp only [e_, Nat.reduceAdd, Nat.reduceBEq] at b_
     subst b_
     clear hr13_
     have hll13_ := Le.refl L110_
     have hhh13_ := Le.refl H11_
     refine W_region [25, 26, 27, 28, 29, 30, 31, 32, 33, 34, 35, 36] rfl (Ops_step (R_move rfl) rfl rfl (Ops_step (R_nilCheck rfl) rfl rfl (Ops_step (R_fieldAddr fo120_0 rfl) rfl rfl (Ops_step (R_fieldAddr fo118_2 rfl) rfl rfl ?_))))
     refine Ops_step (R_loadB (v := vi y11_o0.source_.err_) ag32 rfl ht11_o0.blk rfl) rfl rfl ?_
     refine Ops_step (R_eql rfl rfl) rfl rfl (Ops_step (R_move rfl) rfl rfl ?_)
     refine Ops_split 31 rfl (fun hg14_ => ?_) (fun hg14_ => ?_)
     ·
      replace h := h.1 hg14_
      refine Ops_step (R_move rfl) rfl rfl (Ops_step (R_move rfl) rfl rfl (Ops_step (R_max rfl rfl _root_.rfl) rfl rfl (Ops_step (R_gtr rfl rfl) rfl rfl (Ops_step (R_pick_true rfl rfl) rfl rfl ?_))))
      refine Ops_nil ?_
      refine then_n ?_
      exact ⟨_, rfl, ⟨(decide (r11_0 > (max x1 0))), _, _, rfl, h, hI, hll13_, hhh13_, ht11_o0, trivial⟩, ⟨rfl, rfl, rfl, trivial⟩⟩
     ·
      replace h := h.2 hg14_
      refine Ops_pass rfl rfl (Ops_pass rfl rfl (Ops_pass rfl rfl (Ops_pass rfl rfl (Ops_step (R_pick_false rfl rfl) rfl rfl ?_))))
      refine Ops_nil ?_
      refine then_n ?_
      exact ⟨_, rfl, ⟨false, _, _, rfl, h, hI, hll13_, hhh13_, ht11_o0, trivial⟩, ⟨rfl, rfl, rfl, trivial⟩⟩
    ·
     simp only [e_, Nat.reduceAdd, Nat.reduceBEq] at b_
     subst b_
     clear h
     clear ht11_o0
     rintro _ w13_ ⟨x36_13, L13_, H13_, rfl, hJ13_, hI13_, hll13_, hhh13_, ht11_o0, -⟩
     replace hI := hI13_
     clear hI13_
     have h := hr13_ x36_13 hJ13_
     clear hr13_ hJ13_
     replace hs11_o0_1 := hs11_o0_1.up hhh13_
     replace hll12_ := hll12_.trans hll13_
     replace hhh12_ := hhh12_.trans hhh13_
     refine W_cond rfl (fun hc15_ => ?_) (fun hc15_ => ?_)
     ·
      replace h := h.1 hc15_
      refine W_region [37, 38, 39, 40, none] rfl (Ops_step (R_move rfl) rfl rfl (Ops_step (R_nilCheck rfl) rfl rfl (Ops_step (R_fieldAddr fo120_0 rfl) rfl rfl (Ops_step (R_fieldAddr fo118_2 rfl) rfl rfl ?_))))
      refine Ops_to0 (R_store sz32 rfl rfl ht11_o0.blk (by show 2 < 4; decide) rfl) rfl ?_
      rintro _ w16_ ⟨hB16_, hF16_⟩
      replace hI := hI.tok hF16_ (out1 ht11_o0.out) (mem1 (by simp))
      replace ht11_o0 : Tok H13_ _ d0 120 ([.slice A11_o0_1 y11_o0.source_.b_.length c11_o0_1, vi y11_o0.source_.at_, vi 4, .bool y11_o0.source_.made_]) := ⟨hB16_, ht11_o0.out⟩
      clear hF16_ hB16_
      refine Ops_nil ?_
      refine then_n ?_
      exact ⟨_, rfl, ⟨(octet_Reader.mk (octet_source.mk y11_o0.source_.b_ y11_o0.source_.at_ 4 y11_o0.source_.made_)), A11_o0_1, c11_o0_1, _, _, rfl, h, hI, hll12_, hhh12_, ht11_o0, hc11_o0_1, hs11_o0_1, trivial⟩, ⟨rfl, rfl, rfl, trivial⟩⟩
     ·
      replace h := h.2 hc15_
      refine W_skip ?_
      refine then_n ?_
      exact ⟨_, rfl, ⟨y11_o0, A11_o0_1, c11_o0_1, _, _, rfl, h, hI, hll12_, hhh12_, ht11_o0, hc11_o0_1, hs11_o0_1, trivial⟩, ⟨rfl, rfl, rfl, trivial⟩⟩
   ·
    simp only [e_, Nat.reduceAdd, Nat.reduceBEq] at b_
    subst b_
    clear h
    rintro _ w12_ ⟨yd0_12, Ad0_12_1, cd0_12_1, L12_, H12_, rfl, hJ12_, hI12_, hll12_, hhh12_, htd0_12, hcd0_12_1, hsd0_12_1, -⟩
    replace hI := hI12_
    clear hI12_
    have h := hr12_ yd0_12 hJ12_
    clear hr12_ hJ12_
    refine W_seq_k fun K17 k17 => ?_
    refine W_region [41, 42, 43, 44, 45, 7] rfl (Ops_step (R_move rfl) rfl rfl (Ops_step (R_nilCheck rfl) rfl rfl (Ops_step (R_fieldAddr fo120_0 rfl) rfl rfl (Ops_step (R_move rfl) rfl rfl ?_))))
    refine Ops_call (C_func bd91 rfl) rfl rfl ?_
    refine (octet_source_take_ok (x1 := r11_0) (z0 := yd0_12.source_) hI.st (hg.up hI.le) htd0_12 hcd0_12_1 hsd0_12_1 h).mono ?_
    rintro _ w18_ ⟨A18_0, c18_0, r18_0, y18_o0, A18_o0_1, c18_o0_1, L18_, H18_, rfl, hI18_, hc18_0, hs18_0, ht18_o0, hc18_o0_1, hs18_o0_1, h⟩
    refine Exists.elim (hI.call hI18_ (mem1 (by simp))) fun L180_ h18_ => ?_
    have hz18_ := hI.size
    replace hI := h18_.1
    have u18_ := h18_.2.1
    have hl18_ := h18_.2.2
    clear h18_
    replace hsd0_12_1 := hsd0_12_1.up u18_.hh
    clear htd0_12
    replace hs18_0 := hs18_0.up (Le.refl _)
    clear hI18_ u18_ hl18_
    refine ⟨_, rfl, ?_⟩
    refine Ops_step (R_assign rfl) rfl rfl ?_
    refine Ops_nil ?_
    refine then_n (k17 _ _ ?_)
    clear k17 K17
    refine W_keepB [0, 5, 7] fun B_ b_ => ?_
    simp only [e_, Nat.reduceAdd, Nat.reduceBEq] at b_
    subst b_
    refine W_seq_k fun K20 k20 => ?_
    refine W_seq_k fun K21 k21 => ?_
    refine W_region [46, 47, 48, 49, 50, 51] rfl (Ops_step (R_move rfl) rfl rfl (Ops_step (R_nilCheck rfl) rfl rfl (Ops_step (R_fieldAddr fo120_0 rfl) rfl rfl (Ops_step (R_fieldAddr fo118_2 rfl) rfl rfl ?_))))
    refine Ops_step (R_loadB (v := vi y18_o0.err_) ag32 rfl ht18_o0.blk rfl) rfl rfl ?_
    refine Ops_step (R_neq rfl rfl) rfl rfl ?_
    refine Ops_nil ?_
    refine then_n (k21 _ _ ?_)
    clear k21 K21
    refine W_if rfl (fun hc22_ => ?_) (fun hc22_ => ?_)
    ·
     replace h := h.1 hc22_
     refine W_seq_k fun K23 k23 => ?_
     refine W_region [52, 53, 54, 55, 56, none] rfl (Ops_step (R_move rfl) rfl rfl (Ops_step (R_move rfl) rfl rfl (Ops_step (R_nilCheck rfl) rfl rfl (Ops_step (R_fieldAddr fo120_0 rfl) rfl rfl ?_))))
     refine Ops_step (R_fieldAddr fo118_1 rfl) rfl rfl ?_
     refine Ops_to0 (R_store sz3 rfl rfl ht18_o0.blk (by show 1 < 4; decide) rfl) rfl ?_
     rintro _ w24_ ⟨hB24_, hF24_⟩
     replace hI := hI.tok hF24_ (out1 ht18_o0.out) (mem1 (by simp))
     replace ht18_o0 : Tok H18_ _ d0 120 ([.slice A18_o0_1 y18_o0.b_.length c18_o0_1, vi z0.source_.at_, vi y18_o0.err_, .bool y18_o0.made_]) := ⟨hB24_, ht18_o0.out⟩
     clear hF24_ hB24_
     refine Ops_nil ?_
     refine then_n (k23 _ _ ?_)
     clear k23 K23
     refine W_keepB [] fun B_ b_ => ?_
     simp only [e_, Nat.reduceAdd, Nat.reduceBEq] at b_
     subst b_
     refine W_seq_k fun K26 k26 => ?_
     refine W_region [4] rfl (Ops_step (R_assign rfl) rfl rfl ?_)
     refine Ops_nil ?_
     refine then_n (k26 _ _ ?_)
     clear k26 K26
     refine W_ret ?_
     refine then_ret ?_
     clear k20 K20
     refine ⟨_, ⟨_, _, rfl, rfl, rfl⟩, ?_⟩
     exact ⟨none, 0, [], (octet_Reader.mk (octet_source.mk y18_o0.b_ z0.source_.at_ y18_o0.err_ y18_o0.made_)), A18_o0_1, c18_o0_1, _, _, rfl, hI, OwnS.nil, ht18_o0, hc18_o0_1, hs18_o0_1, h⟩
    ·
     replace h := h.2 hc22_
     refine W_skip ?_
     refine then_n (k20 _ _ ?_)
     clear k20 K20
     refine W_keepB [7] fun B_ b_ => ?_
     simp only [e_, Nat.reduceAdd, Nat.reduceBEq] at b_
     subst b_
     refine W_seq_k fun K28 k28 => ?_
     refine W_region [57, 58, 59, 4] rfl ?_
     refine Ops_to (R_buildSlice0 el29) rfl rfl ?_
     rintro _ w29_ ⟨b29_, rfl, hb29_, hB29_, hF29_⟩
     have ho29_ : OwnS w.heap.size 5 Gh.no H18_ _ (some ⟨b29_, 0, none⟩) 0 ([] : List UInt8) := OwnS.ofBlk hI.st hb29_ hB29_ (all2_sc' _) rfl (by have := hI.size; omega) (by show 0 ≤ maxLen; decide)
     replace hI := hI.fr0 hF29_
     replace ht18_o0 := ht18_o0.fr0 hF29_
     clear hF29_ hB29_
     refine Ops_step (R_move rfl) rfl rfl ?_
     have hk31_ := h.1
     replace h := h.2
     refine Ops_to (X_append (α := UInt8) (xs := ([] : List UInt8)) (ys := r18_0) el29 rfl rfl ho29_ (Srcs.sc (Srcs.ofSl Try.underlying29 hs18_0 hI.st (by decide))) hI.st hk31_ (by decide) hI.size) rfl rfl ?_
     rintro _ w30_ ⟨A30_, c30_, rfl, ho30_, hF30_, hbk30_⟩
     clear hbk30_
     replace hI := hI.tok hF30_ ho29_.out (ho29_.new (Nat.le_refl _))
     replace ht18_o0 := ht18_o0.fr hF30_ (ho29_.old hlt_d0)
     clear hF30_ ho29_
     refine Ops_step (R_assign rfl) rfl rfl ?_
     refine Ops_nil ?_
     refine then_n (k28 _ _ ?_)
     clear k28 K28
     refine W_ret ?_
     refine ⟨_, ⟨_, _, rfl, rfl, rfl⟩, ?_⟩
     exact ⟨A30_, c30_, (([] : List UInt8) ++ r18_0), (octet_Reader.mk y18_o0), A18_o0_1, c18_o0_1, _, _, rfl, hI, (ho30_.hl (Le.no _)), ht18_o0, hc18_o0_1, hs18_o0_1, h⟩

theorem octet_Reader_Err_ok {G : Gh} {w : World} (hS : St G w) (hg : GL G) {d0 : Nat} {z0 : octet_Reader} {Ad0_1 : Option Addr} {cd0_1 : Nat} (htd0 : Tok G w d0 120 ([.slice Ad0_1 z0.source_.b_.length cd0_1, vi z0.source_.at_, vi z0.source_.err_, .bool z0.source_.made_])) (hcd0_1 : z0.source_.b_.length ≤ cd0_1) (hsd0_1 : Sl G Ad0_1 z0.source_.b_) {Q : Int → Prop} (h : octet_Reader_Err z0 Q) : Calls Try.prog 83 #[.pointer (some ⟨d0, 0, none⟩)] w fun e w2 => ∃ (r0 : Int) (L H : Gh), e = .returned (vi r0) ∧ Inv [] G w L H w2 ∧ Q r0 := by
 unfold octet_Reader_Err at h
 have hI := Inv.start (M := []) hS
 refine calls_W 10 Try.func83 rfl Try.ntmps83 rfl [.tmp 2] rfl ?_
 have hlt_d0 := htd0.blk.lt
 refine W_seq_k fun K1 k1 => ?_
 refine W_region [2] rfl (Ops_step (R_assign rfl) rfl rfl ?_)
 refine Ops_nil ?_
 refine then_n (k1 _ _ ?_)
 clear k1 K1
 refine W_seq_k fun K2 k2 => ?_
 refine W_seq_k fun K3 k3 => ?_
 refine W_region [3, 4] rfl (Ops_step (R_move rfl) rfl rfl ?_)
 refine Ops_call (C_func bd81 rfl) rfl rfl ?_
 refine (octet_Reader_dead_ok (z0 := z0) hI.st (hg.up hI.le) htd0 hcd0_1 hsd0_1 h).mono ?_
 rintro _ w4_ ⟨r4_0, L4_, H4_, rfl, hI4_, h⟩
 refine Exists.elim (hI.call hI4_ (by simp)) fun L40_ h4_ => ?_
 have hz4_ := hI.size
 replace hI := h4_.1
 have u4_ := h4_.2.1
 have hl4_ := h4_.2.2
 clear h4_
 replace hsd0_1 := hsd0_1.up u4_.hh
 replace htd0 := htd0.up u4_ (by simp)
 clear hI4_ u4_ hl4_
 refine ⟨_, rfl, ?_⟩
 refine Ops_nil ?_
 refine then_n (k3 _ _ ?_)
 clear k3 K3
 refine W_cond rfl (fun hc5_ => ?_) (fun hc5_ => ?_)
 ·
  replace h := h.1 hc5_
  refine W_seq_k fun K6 k6 => ?_
  refine W_region [2] rfl (Ops_step (R_assign rfl) rfl rfl ?_)
  refine Ops_nil ?_
  refine then_n (k6 _ _ ?_)
  clear k6 K6
  refine W_ret ?_
  refine then_ret ?_
  clear k2 K2
  refine ⟨_, ⟨_, _, rfl, rfl, rfl⟩, ?_⟩
  exact ⟨6, _, _, rfl, hI, h⟩
 ·
  replace h := h.2 hc5_
  refine W_skip ?_
  refine then_n (k2 _ _ ?_)
  clear k2 K2
  refine W_seq_k fun K7 k7 => ?_
  refine W_region [5, 6, 7, 8, 9, 2] rfl (Ops_step (R_move rfl) rfl rfl (Ops_step (R_nilCheck rfl) rfl rfl (Ops_step (R_fieldAddr fo120_0 rfl) rfl rfl (Ops_step (R_fieldAddr fo118_2 rfl) rfl rfl ?_))))
  refine Ops_step (R_loadB (v := vi z0.source_.err_) ag32 rfl htd0.blk rfl) rfl rfl ?_
  refine Ops_step (R_assign rfl) rfl rfl ?_
  refine Ops_nil ?_
  refine then_n (k7 _ _ ?_)
  clear k7 K7
  refine W_keepB [2] fun B_ b_ => ?_
  simp only [e_, Nat.reduceAdd, Nat.reduceBEq] at b_
  subst b_
  refine W_ret ?_
  refine ⟨_, ⟨_, _, rfl, rfl, rfl⟩, ?_⟩
  exact ⟨z0.source_.err_, _, _, rfl, hI, h⟩

theorem octet_source_left_ok {G : Gh} {w : World} (hS : St G w) (hg : GL G) {d0 : Nat} {z0 : octet_source} {Ad0_1 : Option Addr} {cd0_1 : Nat} (htd0 : Tok G w d0 120 ([.slice Ad0_1 z0.b_.length cd0_1, vi z0.at_, vi z0.err_, .bool z0.made_])) (hcd0_1 : z0.b_.length ≤ cd0_1) (hsd0_1 : Sl G Ad0_1 z0.b_) {Q : Int → Prop} (h : octet_source_left z0 Q) : Calls Try.prog 84 #[.pointer (some ⟨d0, 0, none⟩)] w fun e w2 => ∃ (r0 : Int) (L H : Gh), e = .returned (vi r0) ∧ Inv [] G w L H w2 ∧ Q r0 := by
 unfold octet_source_left at h
 have hI := Inv.start (M := []) hS
 refine calls_W 13 Try.func84 rfl Try.ntmps84 rfl [.tmp 2] rfl ?_
 have hlt_d0 := htd0.blk.lt
 refine W_seq_k fun K1 k1 => ?_
 refine W_region [2] rfl (Ops_step (R_assign rfl) rfl rfl ?_)
 refine Ops_nil ?_
 refine then_n (k1 _ _ ?_)
 clear k1 K1
 refine W_seq_k fun K2 k2 => ?_
 refine W_drawF [3, 4, 5, 6, 7, 8, 9, 10, 11, 12, 2] [(0, true), (1, true), (2, true), (3, true), (4, true), (5, true), (6, true), (7, true), (8, true), (9, true), (10, true)] TJtA.hm rfl (by kernel_rfl) fun ops3_ w3_ hops3_ hF3_ => ?_
 replace hI := hI.fr0 hF3_
 replace htd0 := htd0.fr0 hF3_
 clear hF3_
 refine HSp (R_move rfl) rfl rfl (HSp (R_nilCheck rfl) rfl rfl (HSp (R_fieldAddr fo118_0 rfl) rfl rfl ?_))
 refine HS_loadB (v := .slice Ad0_1 z0.b_.length cd0_1) ag29 rfl htd0.blk rfl rfl rfl ?_
 refine HSp (R_len Try.underlying29 rfl rfl) rfl rfl (HSp (R_move rfl) rfl rfl (HSp (R_nilCheck rfl) rfl rfl (HSp (R_fieldAddr fo118_1 rfl) rfl rfl ?_)))
 refine HS_loadB (v := vi z0.at_) ag3 rfl htd0.blk rfl rfl rfl ?_
 have hk4_ := h.1
 replace h := h.2
 refine HSp (R_sub rfl rfl (wI hk4_.1 hk4_.2)) rfl rfl (HSp (R_assign rfl) rfl rfl ?_)
 refine HS_nil ?_
 clear hops3_
 refine then_n (k2 _ _ ?_)
 clear k2 K2
 refine W_keepB [2] fun B_ b_ => ?_
 simp only [e_, Nat.reduceAdd, Nat.reduceBEq] at b_
 subst b_
 refine W_ret ?_
 refine ⟨_, ⟨_, _, rfl, rfl, rfl⟩, ?_⟩
 exact ⟨((z0.b_.length : Int) - z0.at_), _, _, rfl, hI, h⟩

theorem octet_Reader_Left_ok {G : Gh} {w : World} (hS : St G w) (hg : GL G) {d0 : Nat} {z0 : octet_Reader} {Ad0_1 : Option Addr} {cd0_1 : Nat} (htd0 : Tok G w d0 120 ([.slice Ad0_1 z0.source_.b_.length cd0_1, vi z0.source_.at_, vi z0.source_.err_, .bool z0.source_.made_])) (hcd0_1 : z0.source_.b_.length ≤ cd0_1) (hsd0_1 : Sl G Ad0_1 z0.source_.b_) {Q : Int → Prop} (h : octet_Reader_Left z0 Q) : Calls Try.prog 90 #[.pointer (some ⟨d0, 0, none⟩)] w fun e w2 => ∃ (r0 : Int) (L H : Gh), e = .returned (vi r0) ∧ Inv [] G w L H w2 ∧ Q r0 := by
 unfold octet_Reader_Left at h
 have hI := Inv.start (M := []) hS
 refine calls_W 9 Try.func90 rfl Try.ntmps90 rfl [.tmp 2] rfl ?_
 have hlt_d0 := htd0.blk.lt
 refine W_seq_k fun K1 k1 => ?_
 refine W_region [2] rfl (Ops_step (R_assign rfl) rfl rfl ?_)
 refine Ops_nil ?_
 refine then_n (k1 _ _ ?_)
 clear k1 K1
 refine W_seq_k fun K2 k2 => ?_
 refine W_seq_k fun K3 k3 => ?_
 refine W_region [3, 4] rfl (Ops_step (R_move rfl) rfl rfl (Ops_step (R_ptrNil Try.underlying103 rfl rfl) rfl rfl ?_))
 refine Ops_nil ?_
 refine then_n (k3 _ _ ?_)
 clear k3 K3
 refine W_cond_false rfl ?_
 refine W_skip ?_
 refine then_n (k2 _ _ ?_)
 clear k2 K2
 refine W_seq_k fun K4 k4 => ?_
 refine W_region [5, 6, 7, 8, 2] rfl (Ops_step (R_move rfl) rfl rfl (Ops_step (R_nilCheck rfl) rfl rfl (Ops_step (R_fieldAddr fo120_0 rfl) rfl rfl ?_)))
 refine Ops_call (C_func bd84 rfl) rfl rfl ?_
 refine (octet_source_left_ok (z0 := z0.source_) hI.st (hg.up hI.le) htd0 hcd0_1 hsd0_1 h).mono ?_
 rintro _ w5_ ⟨r5_0, L5_, H5_, rfl, hI5_, h⟩
 refine Exists.elim (hI.call hI5_ (by simp)) fun L50_ h5_ => ?_
 have hz5_ := hI.size
 replace hI := h5_.1
 have u5_ := h5_.2.1
 have hl5_ := h5_.2.2
 clear h5_
 replace hsd0_1 := hsd0_1.up u5_.hh
 replace htd0 := htd0.up u5_ (by simp)
 clear hI5_ u5_ hl5_
 refine ⟨_, rfl, ?_⟩
 refine Ops_step (R_assign rfl) rfl rfl ?_
 refine Ops_nil ?_
 refine then_n (k4 _ _ ?_)
 clear k4 K4
 refine W_keepB [2] fun B_ b_ => ?_
 simp only [e_, Nat.reduceAdd, Nat.reduceBEq] at b_
 subst b_
 refine W_ret ?_
 refine ⟨_, ⟨_, _, rfl, rfl, rfl⟩, ?_⟩
 exact ⟨r5_0, _, _, rfl, hI, h⟩

theorem octet_Sum_ok {G : Gh} {w : World} (hS : St G w) (hg : GL G) {A0 : Option Addr} {c0 : Nat} {x0 : List UInt8} (hc0 : x0.length ≤ c0) (hs0 : Sl G A0 x0) {Q : (BitVec 32) → Prop} (h : octet_Sum x0 Q) : Calls Try.prog 89 #[.slice A0 x0.length c0] w fun e w2 => ∃ (r0 : BitVec 32) (L H : Gh), e = .returned (w32 r0) ∧ Inv [] G w L H w2 ∧ Q r0 := by
 unfold octet_Sum at h
 have hI := Inv.start (M := []) hS
 refine calls_W 30 Try.func89 rfl Try.ntmps89 rfl [.tmp 2] rfl ?_
 refine W_seq_k fun K1 k1 => ?_
 refine W_region [2] rfl (Ops_step (R_assign rfl) rfl rfl ?_)
 refine Ops_nil ?_
 refine then_n (k1 _ _ ?_)
 clear k1 K1
 refine W_seq_k fun K2 k2 => ?_
 refine W_region [3] rfl (Ops_step (R_assign rfl) rfl rfl ?_)
 refine Ops_nil ?_
 refine then_n (k2 _ _ ?_)
 clear k2 K2
 refine ex_ h fun J3_ hr3_ h => ?_
 refine W_seq_join [] [3] (fun vals_ w2 => ∃ (x3_3 : BitVec 32) (L H : Gh), vals_ = [w32 x3_3] ∧ J3_ x3_3 ∧ Inv [] G w L H w2 ∧ Le Gh.no L ∧ Le G H ∧ True) (fun B_ b_ => ?_) (fun B_ b_ => ?_)
 ·
  simp only [e_, Nat.reduceAdd, Nat.reduceBEq] at b_
  subst b_
  clear hr3_
  have hll3_ := Le.refl Gh.no
  have hhh3_ := Le.refl G
  refine W_seq_k fun K4 k4 => ?_
  refine W_region [7, 8, 9] rfl (Ops_step (R_move rfl) rfl rfl (Ops_step (R_len Try.underlying29 rfl rfl) rfl rfl (Ops_step (R_move rfl) rfl rfl ?_)))
  refine Ops_nil ?_
  refine then_n (k4 _ _ ?_)
  clear k4 K4
  refine W_block ?_
  refine Exists.elim h fun I5_ h => Exists.elim h fun n5_ h => ?_
  have h0_ := h.1
  have hs5_ := h.2
  clear h
  refine W_loopB [7, 8] [3, 9] (fun m vals_ w2 => ∃ (x3_5 : BitVec 32) (x9_5 : Int) (L H : Gh), vals_ = [w32 x3_5, vi x9_5] ∧ I5_ m x3_5 x9_5 ∧ Inv [] G w L H w2 ∧ Le Gh.no L ∧ Le G H ∧ True) n5_ _ rfl ⟨(4294967295#32), 0, _, _, rfl, h0_, hI, Le.refl _, Le.refl _, trivial⟩ fun B_ b_ => ?_
  clear h0_
  simp only [e_, Nat.reduceAdd, Nat.reduceBEq] at b_
  subst b_
  rintro m5_ _ w5_ ⟨x3_5, x9_5, L5_, H5_, rfl, hJ5_, hI5_, hll5_, hhh5_, -⟩
  replace hI := hI5_
  clear hI5_
  have h := hs5_ m5_ x3_5 x9_5 hJ5_
  clear hs5_ hJ5_
  replace hs0 := hs0.up hhh5_
  replace hll3_ := hll3_.trans hll5_
  replace hhh3_ := hhh3_.trans hhh5_
  refine W_seq_k fun K6 k6 => ?_
  refine W_region [10] rfl (Ops_step (R_lss rfl rfl) rfl rfl ?_)
  refine Ops_nil ?_
  refine then_n (k6 _ _ ?_)
  clear k6 K6
  refine W_seq_k fun K7 k7 => ?_
  refine W_if rfl (fun hc8_ => ?_) (fun hc8_ => ?_)
  ·
   replace h := h.1 hc8_
   refine W_skip ?_
   refine then_n (k7 _ _ ?_)
   clear k7 K7
   refine ex_ h fun J9_ hr9_ h => ?_
   refine W_seq_join [7, 8, 9] [3] (fun vals_ w2 => ∃ (x3_9 : BitVec 32) (L H : Gh), vals_ = [w32 x3_9] ∧ J9_ x3_9 ∧ Inv [] G w L H w2 ∧ Le L5_ L ∧ Le H5_ H ∧ True) (fun B_ b_ => ?_) (fun B_ b_ => ?_)
   ·
    simp only [e_, Nat.reduceAdd, Nat.reduceBEq] at b_
    subst b_
    clear hr9_
    have hll9_ := Le.refl L5_
    have hhh9_ := Le.refl H5_
    refine W_block ?_
    refine W_seq_k fun K10 k10 => ?_
    refine W_region [11, 12, 5] rfl ?_
    refine ex_ h fun x11_ hx11_ h => ?_
    have ha11_ := (hs0.atS hx11_).1
    have hg11_ := (hs0.atS hx11_).2
    refine Ops_step (R_indexSl Try.underlying29 sz5 rfl rfl hx11_.1 hx11_.lt ha11_) rfl rfl (Ops_step (R_load ag5 rfl (hI.st _ _ hg11_)) rfl rfl (Ops_step (R_assign rfl) rfl rfl ?_))
    refine Ops_nil ?_
    refine then_n (k10 _ _ ?_)
    clear k10 K10
    refine W_seq_k fun K12 k12 => ?_
    refine W_region [13, 14, 15, 16, 17, 3] rfl (Ops_step (R_move rfl) rfl rfl (Ops_step (R_move rfl) rfl rfl (Ops_step (R_conv Try.underlying5 Try.underlying124 rfl (c8_32 _)) rfl rfl (Ops_step (R_shl rfl rfl (by decide) (shl32 (x11_.toBitVec.setWidth 32) 24 (by decide))) rfl rfl ?_))))
    refine Ops_step (R_xor rfl rfl (xor32 x3_5 ((x11_.toBitVec.setWidth 32) <<< (24 : Nat)))) rfl rfl (Ops_step (R_assign rfl) rfl rfl ?_)
    refine Ops_nil ?_
    refine then_n (k12 _ _ ?_)
    clear k12 K12
    refine W_keepB [3, 7, 8, 9] fun B_ b_ => ?_
    simp only [e_, Nat.reduceAdd, Nat.reduceBEq] at b_
    subst b_
    refine W_seq_k fun K14 k14 => ?_
    refine W_region [18] rfl (Ops_step (R_move rfl) rfl rfl ?_)
    refine Ops_nil ?_
    refine then_n (k14 _ _ ?_)
    clear k14 K14
    refine W_block ?_
    refine Exists.elim h fun I15_ h => Exists.elim h fun n15_ h => ?_
    have h0_ := h.1
    have hs15_ := h.2
    clear h
    refine W_loopB [7, 8, 9] [3, 18] (fun m vals_ w2 => ∃ (x3_15 : BitVec 32) (x18_15 : Int) (L H : Gh), vals_ = [w32 x3_15, vi x18_15] ∧ I15_ m x3_15 x18_15 ∧ Inv [] G w L H w2 ∧ Le L5_ L ∧ Le H5_ H ∧ True) n15_ _ rfl ⟨(x3_5 ^^^ ((x11_.toBitVec.setWidth 32) <<< (24 : Nat))), 0, _, _, rfl, h0_, hI, Le.refl _, Le.refl _, trivial⟩ fun B_ b_ => ?_
    clear h0_
    simp only [e_, Nat.reduceAdd, Nat.reduceBEq] at b_
    subst b_
    rintro m15_ _ w15_ ⟨x3_15, x18_15, L15_, H15_, rfl, hJ15_, hI15_, hll15_, hhh15_, -⟩
    replace hI := hI15_
    clear hI15_
    have h := hs15_ m15_ x3_15 x18_15 hJ15_
    clear hs15_ hJ15_
    replace hs0 := hs0.up hhh15_
    replace hll3_ := hll3_.trans hll15_
    replace hhh3_ := hhh3_.trans hhh15_
    replace hll5_ := hll5_.trans hll15_
    replace hhh5_ := hhh5_.trans hhh15_
    replace hll9_ := hll9_.trans hll15_
    replace hhh9_ := hhh9_.trans hhh15_
    refine W_seq_k fun K16 k16 => ?_
    refine W_region [19] rfl (Ops_step (R_lss rfl rfl) rfl rfl ?_)
    refine Ops_nil ?_
    refine then_n (k16 _ _ ?_)
    clear k16 K16
    refine W_seq_k fun K17 k17 => ?_
    refine W_if rfl (fun hc18_ => ?_) (fun hc18_ => ?_)
    ·
     replace h := h.1 hc18_
     refine W_skip ?_
     refine then_n (k17 _ _ ?_)
     clear k17 K17
     refine W_seq_k fun K19 k19 => ?_
     refine W_block ?_
     refine W_seq_k fun K20 k20 => ?_
     refine W_region [20, 21, 6] rfl (Ops_step (R_move rfl) rfl rfl (Ops_step (R_shr rfl rfl (by decide) (shr32 x3_15 31 (by decide))) rfl rfl (Ops_step (R_assign rfl) rfl rfl ?_)))
     refine Ops_nil ?_
     refine then_n (k20 _ _ ?_)
     clear k20 K20
     refine W_region [22, 23, 24, 25, 26, 3] rfl (Ops_step (R_move rfl) rfl rfl (Ops_step (R_shl rfl rfl (by decide) (shl32 x3_15 1 (by decide))) rfl rfl (Ops_step (R_move rfl) rfl rfl (Ops_step (R_mul rfl rfl (mul32 (x3_15 >>> (31 : Nat)) (2168537515#32))) rfl rfl ?_))))
     refine Ops_step (R_xor rfl rfl (xor32 (x3_15 <<< (1 : Nat)) ((x3_15 >>> (31 : Nat)) * (2168537515#32)))) rfl rfl (Ops_step (R_assign rfl) rfl rfl ?_)
     refine Ops_nil ?_
     refine block_n ?_
     refine then_n (k19 _ _ ?_)
     clear k19 K19
     refine W_keepB [3, 7, 8, 9, 18] fun B_ b_ => ?_
     simp only [e_, Nat.reduceAdd, Nat.reduceBEq] at b_
     subst b_
     refine W_region [27, 18] rfl ?_
     have hk22_ := h.1
     replace h := h.2
     refine Ops_step (R_add rfl rfl (wI hk22_.1 hk22_.2)) rfl rfl (Ops_step (R_move rfl) rfl rfl ?_)
     refine Ops_nil ?_
     refine then_n ?_
     exact h.elim fun m_ h => ⟨m_, _, h.1, rfl, ⟨((x3_15 <<< (1 : Nat)) ^^^ ((x3_15 >>> (31 : Nat)) * (2168537515#32))), (x18_15 + 1), _, _, rfl, h.2, hI, hll15_, hhh15_, trivial⟩, ⟨rfl, rfl, rfl, trivial⟩⟩
    ·
     replace h := h.2 hc18_
     refine W_exit ?_
     refine then_exit ?_
     clear k17 K17
     refine then_exit ?_
     refine block_exit ?_
     refine block_n ?_
     refine then_n ?_
     exact ⟨_, rfl, ⟨x3_15, _, _, rfl, h, hI, hll9_, hhh9_, trivial⟩, ⟨rfl, rfl, rfl, trivial⟩⟩
   ·
    simp only [e_, Nat.reduceAdd, Nat.reduceBEq] at b_
    subst b_
    clear h
    rintro _ w9_ ⟨x3_9, L9_, H9_, rfl, hJ9_, hI9_, hll9_, hhh9_, -⟩
    replace hI := hI9_
    clear hI9_
    have h := hr9_ x3_9 hJ9_
    clear hr9_ hJ9_
    replace hs0 := hs0.up hhh9_
    replace hll3_ := hll3_.trans hll9_
    replace hhh3_ := hhh3_.trans hhh9_
    replace hll5_ := hll5_.trans hll9_
    replace hhh5_ := hhh5_.trans hhh9_
    refine W_region [28, 9] rfl ?_
    have hk23_ := h.1
    replace h := h.2
    refine Ops_step (R_add rfl rfl (wI hk23_.1 hk23_.2)) rfl rfl (Ops_step (R_move rfl) rfl rfl ?_)
    refine Ops_nil ?_
    refine then_n ?_
    exact h.elim fun m_ h => ⟨m_, _, h.1, rfl, ⟨x3_9, (x9_5 + 1), _, _, rfl, h.2, hI, hll5_, hhh5_, trivial⟩, ⟨rfl, rfl, trivial⟩⟩
  ·
   replace h := h.2 hc8_
   refine W_exit ?_
   refine then_exit ?_
   clear k7 K7
   refine then_exit ?_
   refine block_exit ?_
   refine then_n ?_
   exact ⟨_, rfl, ⟨x3_5, _, _, rfl, h, hI, hll3_, hhh3_, trivial⟩, trivial⟩
 ·
  simp only [e_, Nat.reduceAdd, Nat.reduceBEq] at b_
  subst b_
  clear h
  rintro _ w3_ ⟨x3_3, L3_, H3_, rfl, hJ3_, hI3_, hll3_, hhh3_, -⟩
  replace hI := hI3_
  clear hI3_
  have h := hr3_ x3_3 hJ3_
  clear hr3_ hJ3_
  refine W_seq_k fun K24 k24 => ?_
  refine W_region [29, 2] rfl (Ops_step (R_move rfl) rfl rfl (Ops_step (R_assign rfl) rfl rfl ?_))
  refine Ops_nil ?_
  refine then_n (k24 _ _ ?_)
  clear k24 K24
  refine W_ret ?_
  refine ⟨_, ⟨_, _, rfl, rfl, rfl⟩, ?_⟩
  exact ⟨x3_3, _, _, rfl, hI, h⟩

theorem octet_Open_ok {G : Gh} {w : World} (hS : St G w) (hg : GL G) {A0 : Option Addr} {c0 : Nat} {x0 : List UInt8} (hc0 : x0.length ≤ c0) (hs0 : Sl G A0 x0) {Q : (List UInt8) → Int → Int → Prop} (h : octet_Open x0 Q) : Calls Try.prog 80 #[.slice A0 x0.length c0] w fun e w2 => ∃ (A0 : Option Addr) (c0 : Nat) (r0 : List UInt8) (r1 : Int) (r2 : Int) (L H : Gh), e = .returned (.tuple #[.slice A0 r0.length c0, vi r1, vi r2]) ∧ Inv [] G w L H w2 ∧ OwnS w.heap.size 5 L H w2 A0 c0 r0 ∧ Q r0 r1 r2 := by
 unfold octet_Open at h
 have hI := Inv.start (M := []) hS
 refine calls_W 71 Try.func80 rfl Try.ntmps80 rfl [.tmp 2, .tmp 3, .tmp 4] rfl ?_
 refine W_seq_k fun K1 k1 => ?_
 refine W_region [2, 3, 4] rfl (Ops_step (R_assign rfl) rfl rfl (Ops_step (R_assign rfl) rfl rfl (Ops_step (R_assign rfl) rfl rfl ?_)))
 refine Ops_nil ?_
 refine then_n (k1 _ _ ?_)
 clear k1 K1
 refine W_seq_k fun K2 k2 => ?_
 refine W_region [10, 11, 5] rfl (Ops_step (R_move rfl) rfl rfl ?_)
 refine Ops_call (C_func bd67 rfl) rfl rfl ?_
 refine (octet_Read_ok (x0 := x0) hI.st (hg.up hI.le) hc0 hs0 h).mono ?_
 rintro _ w3_ ⟨o0_3, y3_o0, A3_o0_1, c3_o0_1, L3_, H3_, rfl, hI3_, hge_o0_3, ht3_o0, hc3_o0_1, hs3_o0_1, h⟩
 have hge0_o0_3 := hge_o0_3
 replace hge_o0_3 := Nat.le_trans hI.size hge_o0_3
 refine Exists.elim (hI.call hI3_ (by simp)) fun L30_ h3_ => ?_
 have hz3_ := hI.size
 replace hI := h3_.1
 have u3_ := h3_.2.1
 have hl3_ := h3_.2.2
 clear h3_
 replace hs0 := hs0.up u3_.hh
 clear hI3_ u3_ hl3_
 refine ⟨_, rfl, ?_⟩
 refine Ops_step (R_assign rfl) rfl rfl ?_
 refine Ops_nil ?_
 refine then_n (k2 _ _ ?_)
 clear k2 K2
 refine W_seq_k fun K4 k4 => ?_
 refine W_region [12, 13, 6] rfl (Ops_step (R_move rfl) rfl rfl ?_)
 refine Ops_call (C_func bd85 rfl) rfl rfl ?_
 refine (octet_Reader_Bytes_ok (x1 := 16384) (z0 := y3_o0) hI.st (hg.up hI.le) ht3_o0 hc3_o0_1 hs3_o0_1 h).mono ?_
 rintro _ w5_ ⟨A5_0, c5_0, r5_0, y5_o0, A5_o0_1, c5_o0_1, L5_, H5_, rfl, hI5_, ho5_0, ht5_o0, hc5_o0_1, hs5_o0_1, h⟩
 refine Exists.elim (hI.call hI5_ (new1 hge_o0_3)) fun L50_ h5_ => ?_
 have hz5_ := hI.size
 replace hI := h5_.1
 have u5_ := h5_.2.1
 have hl5_ := h5_.2.2
 clear h5_
 replace hs0 := hs0.up u5_.hh
 replace hs3_o0_1 := hs3_o0_1.up u5_.hh
 clear ht3_o0
 replace ho5_0 := OwnS.backS ho5_0 hz5_ (Le.refl _)
 clear hI5_ u5_ hl5_
 refine ⟨_, rfl, ?_⟩
 refine Ops_step (R_assign rfl) rfl rfl ?_
 refine Ops_nil ?_
 refine then_n (k4 _ _ ?_)
 clear k4 K4
 refine W_keepB [0, 5, 6] fun B_ b_ => ?_
 simp only [e_, Nat.reduceAdd, Nat.reduceBEq] at b_
 subst b_
 refine W_seq_k fun K7 k7 => ?_
 refine W_seq_k fun K8 k8 => ?_
 refine W_region [14, 15, 16] rfl (Ops_step (R_move rfl) rfl rfl ?_)
 refine Ops_call (C_func bd83 rfl) rfl rfl ?_
 refine (octet_Reader_Err_ok (z0 := y5_o0) hI.st (hg.up hI.le) ht5_o0 hc5_o0_1 hs5_o0_1 h).mono ?_
 rintro _ w9_ ⟨r9_0, L9_, H9_, rfl, hI9_, h⟩
 refine Exists.elim (hI.call hI9_ (by simp)) fun L90_ h9_ => ?_
 have hz9_ := hI.size
 replace hI := h9_.1
 have u9_ := h9_.2.1
 have hl9_ := h9_.2.2
 clear h9_
 replace hs0 := hs0.up u9_.hh
 replace ht5_o0 := ht5_o0.up u9_ (by simp)
 replace hs5_o0_1 := hs5_o0_1.up u9_.hh
 replace ho5_0 := ho5_0.up (Le.refl _) u9_ (by simp)
 clear hI9_ u9_ hl9_
 refine ⟨_, rfl, ?_⟩
 refine Ops_step (R_neq rfl rfl) rfl rfl ?_
 refine Ops_nil ?_
 refine then_n (k8 _ _ ?_)
 clear k8 K8
 refine W_if rfl (fun hc10_ => ?_) (fun hc10_ => ?_)
 ·
  replace h := h.1 hc10_
  refine W_seq_k fun K11 k11 => ?_
  refine W_region [17, 18, 2, 3, 4] rfl (Ops_step (R_move rfl) rfl rfl ?_)
  refine Ops_call (C_func bd83 rfl) rfl rfl ?_
  refine (octet_Reader_Err_ok (z0 := y5_o0) hI.st (hg.up hI.le) ht5_o0 hc5_o0_1 hs5_o0_1 h).mono ?_
  rintro _ w12_ ⟨r12_0, L12_, H12_, rfl, hI12_, h⟩
  refine Exists.elim (hI.call hI12_ (by simp)) fun L120_ h12_ => ?_
  have hz12_ := hI.size
  replace hI := h12_.1
  have u12_ := h12_.2.1
  have hl12_ := h12_.2.2
  clear h12_
  replace ht5_o0 := ht5_o0.up u12_ (by simp)
  replace hs5_o0_1 := hs5_o0_1.up u12_.hh
  clear hI12_ u12_ hl12_
  refine ⟨_, rfl, ?_⟩
  refine Ops_step (R_assign rfl) rfl rfl (Ops_step (R_assign rfl) rfl rfl (Ops_step (R_assign rfl) rfl rfl ?_))
  refine Ops_nil ?_
  refine then_n (k11 _ _ ?_)
  clear k11 K11
  refine W_keepB [2, 3, 4] fun B_ b_ => ?_
  simp only [e_, Nat.reduceAdd, Nat.reduceBEq] at b_
  subst b_
  refine W_ret ?_
  refine then_ret ?_
  clear k7 K7
  refine ⟨_, ⟨_, _, rfl, rfl, ⟨_, _, rfl, rfl, ⟨_, _, rfl, rfl, rfl⟩⟩⟩, ?_⟩
  exact ⟨none, 0, [], 0, r12_0, _, _, rfl, hI, OwnS.nil, h⟩
 ·
  replace h := h.2 hc10_
  refine W_skip ?_
  refine then_n (k7 _ _ ?_)
  clear k7 K7
  refine W_seq_k fun K14 k14 => ?_
  refine W_region [19, 20, 21, 22, 23, 7] rfl (Ops_step (R_move rfl) rfl rfl (Ops_step (R_len Try.underlying29 rfl rfl) rfl rfl (Ops_step (R_move rfl) rfl rfl ?_)))
  refine Ops_call (C_func bd90 rfl) rfl rfl ?_
  refine (octet_Reader_Left_ok (z0 := y5_o0) hI.st (hg.up hI.le) ht5_o0 hc5_o0_1 hs5_o0_1 h).mono ?_
  rintro _ w15_ ⟨r15_0, L15_, H15_, rfl, hI15_, h⟩
  refine Exists.elim (hI.call hI15_ (by simp)) fun L150_ h15_ => ?_
  have hz15_ := hI.size
  replace hI := h15_.1
  have u15_ := h15_.2.1
  have hl15_ := h15_.2.2
  clear h15_
  replace hs0 := hs0.up u15_.hh
  replace ht5_o0 := ht5_o0.up u15_ (by simp)
  replace hs5_o0_1 := hs5_o0_1.up u15_.hh
  replace ho5_0 := ho5_0.up (Le.refl _) u15_ (by simp)
  clear hI15_ u15_ hl15_
  refine ⟨_, rfl, ?_⟩
  have hk16_ := h.1
  replace h := h.2
  refine Ops_step (R_sub rfl rfl (wI hk16_.1 hk16_.2)) rfl rfl (Ops_step (R_assign rfl) rfl rfl ?_)
  refine Ops_nil ?_
  refine then_n (k14 _ _ ?_)
  clear k14 K14
  refine W_keepB [0, 5, 6, 7] fun B_ b_ => ?_
  simp only [e_, Nat.reduceAdd, Nat.reduceBEq] at b_
  subst b_
  refine W_seq_k fun K18 k18 => ?_
  refine W_region [24, 25, 26, 27, 8] rfl (Ops_step (R_move rfl) rfl rfl (Ops_step (R_nilCheck rfl) rfl rfl (Ops_step (R_fieldAddr fo120_0 rfl) rfl rfl ?_)))
  refine Ops_call (C_func bd91 rfl) rfl rfl ?_
  refine (octet_source_take_ok (x1 := 4) (z0 := y5_o0.source_) hI.st (hg.up hI.le) ht5_o0 hc5_o0_1 hs5_o0_1 h).mono ?_
  rintro _ w19_ ⟨A19_0, c19_0, r19_0, y19_o0, A19_o0_1, c19_o0_1, L19_, H19_, rfl, hI19_, hc19_0, hs19_0, ht19_o0, hc19_o0_1, hs19_o0_1, h⟩
  refine Exists.elim (hI.call hI19_ (new1 hge_o0_3)) fun L190_ h19_ => ?_
  have hz19_ := hI.size
  replace hI := h19_.1
  have u19_ := h19_.2.1
  have hl19_ := h19_.2.2
  clear h19_
  replace hs0 := hs0.up u19_.hh
  replace hs5_o0_1 := hs5_o0_1.up u19_.hh
  replace ho5_0 := ho5_0.up (Le.refl _) u19_ (ho5_0.ne ht5_o0.blk (by decide))
  clear ht5_o0
  replace hs19_0 := hs19_0.up (Le.refl _)
  clear hI19_ u19_ hl19_
  refine ⟨_, rfl, ?_⟩
  refine Ops_step (R_assign rfl) rfl rfl ?_
  refine Ops_nil ?_
  refine then_n (k18 _ _ ?_)
  clear k18 K18
  refine W_seq_k fun K20 k20 => ?_
  refine W_seq_k fun K21 k21 => ?_
  refine W_region [28, 29, 30] rfl (Ops_step (R_move rfl) rfl rfl (Ops_step (R_len Try.underlying29 rfl rfl) rfl rfl (Ops_step (R_lss rfl rfl) rfl rfl ?_)))
  refine Ops_nil ?_
  refine then_n (k21 _ _ ?_)
  clear k21 K21
  refine W_keepB [0, 6, 7, 8, 30] fun B_ b_ => ?_
  simp only [e_, Nat.reduceAdd, Nat.reduceBEq] at b_
  subst b_
  refine W_if rfl (fun hc23_ => ?_) (fun hc23_ => ?_)
  ·
   replace h := h.1 hc23_
   refine W_seq_k fun K24 k24 => ?_
   refine W_region [2, 3, 4] rfl (Ops_step (R_assign rfl) rfl rfl (Ops_step (R_assign rfl) rfl rfl (Ops_step (R_assign rfl) rfl rfl ?_)))
   refine Ops_nil ?_
   refine then_n (k24 _ _ ?_)
   clear k24 K24
   refine W_ret ?_
   refine then_ret ?_
   clear k20 K20
   refine ⟨_, ⟨_, _, rfl, rfl, ⟨_, _, rfl, rfl, ⟨_, _, rfl, rfl, rfl⟩⟩⟩, ?_⟩
   exact ⟨none, 0, [], 0, 2, _, _, rfl, hI, OwnS.nil, h⟩
  ·
   replace h := h.2 hc23_
   refine W_skip ?_
   refine then_n (k20 _ _ ?_)
   clear k20 K20
   refine W_seq_k fun K25 k25 => ?_
   refine W_seq_k fun K26 k26 => ?_
   refine W_region [31, 32, 33, 34, 9] rfl (Ops_step (R_move rfl) rfl rfl (Ops_step (R_move rfl) rfl rfl ?_))
   have hk28_ := h.1
   replace h := h.2
   have hk29_ := h.1
   replace h := h.2
   refine Exists.elim (cut_ex (n := 1) (l := 0) (h := ((x0.length : Int) - r15_0)) hs0 rfl (by decide) hc0 (Int.le_refl 0) hk28_ hk29_) fun A27_ h27_ => Exists.elim h27_ fun c27_ h27_ => ?_
   have hr27_ := h27_.1
   have hc27_ := h27_.2.1
   have hs27_ := h27_.2.2
   clear h27_
   refine Ops_step (X_slice (xs := x0) Try.underlying29 sz5 rfl hr27_ hc0 rfl rfl (Int.le_refl 0) hk28_ hk29_) rfl rfl ?_
   clear hr27_
   refine Ops_call (C_func bd89 rfl) rfl rfl ?_
   refine (octet_Sum_ok (x0 := (cut x0 0 ((x0.length : Int) - r15_0))) hI.st (hg.up hI.le) hc27_ hs27_ h).mono ?_
   rintro _ w30_ ⟨r30_0, L30_, H30_, rfl, hI30_, h⟩
   refine Exists.elim (hI.call hI30_ (by simp)) fun L300_ h30_ => ?_
   have hz30_ := hI.size
   replace hI := h30_.1
   have u30_ := h30_.2.1
   have hl30_ := h30_.2.2
   clear h30_
   replace ho5_0 := ho5_0.up (Le.refl _) u30_ (by simp)
   replace hs19_0 := hs19_0.up u30_.hh
   clear hI30_ u30_ hl30_
   refine ⟨_, rfl, ?_⟩
   refine Ops_step (R_assign rfl) rfl rfl ?_
   refine Ops_nil ?_
   refine then_n (k26 _ _ ?_)
   clear k26 K26
   refine W_keepB [6, 7, 8, 9] fun B_ b_ => ?_
   simp only [e_, Nat.reduceAdd, Nat.reduceBEq] at b_
   subst b_
   refine ex_ h fun J32_ hr32_ h => ?_
   refine W_seq_join [6, 7] [67] (fun vals_ w2 => ∃ (x67_32 : Bool) (L H : Gh), vals_ = [.bool x67_32] ∧ J32_ x67_32 ∧ Inv [] G w L H w2 ∧ Le L300_ L ∧ Le H30_ H ∧ OwnS w.heap.size 5 Gh.no H w2 A5_0 c5_0 r5_0 ∧ True) (fun B_ b_ => ?_) (fun B_ b_ => ?_)
   ·
    simp only [e_, Nat.reduceAdd, Nat.reduceBEq] at b_
    subst b_
    clear hr32_
    have hll32_ := Le.refl L300_
    have hhh32_ := Le.refl H30_
    refine W_region [35, 36, 37, 38, 39, 40, 41, 42, 43, 44, 45, 46, 47, 48, 49, 50, 51, 52, 53, 54, 55, 56, 57, 58, 59, 60, 61, 62, 63, 64, 65, 66, 67] rfl (Ops_step (R_move rfl) rfl rfl (Ops_step (R_shr rfl rfl (by decide) (shr32 r30_0 24 (by decide))) rfl rfl (Ops_step (R_conv Try.underlying124 Try.underlying5 rfl (c32_8 _)) rfl rfl (Ops_step (R_move rfl) rfl rfl ?_))))
    refine ex_ h fun x33_ hx33_ h => ?_
    have ha33_ := (hs19_0.atS hx33_).1
    have hg33_ := (hs19_0.atS hx33_).2
    refine Ops_step (R_indexSl Try.underlying29 sz5 rfl rfl hx33_.1 hx33_.lt ha33_) rfl rfl (Ops_step (R_load ag5 rfl (hI.st _ _ hg33_)) rfl rfl (Ops_step (R_neq rfl rfl) rfl rfl (Ops_step (R_move rfl) rfl rfl ?_)))
    refine Ops_split 42 rfl (fun hg34_ => ?_) (fun hg34_ => ?_)
    ·
     replace h := h.1 hg34_
     refine Ops_pass rfl rfl (Ops_pass rfl rfl (Ops_pass rfl rfl (Ops_pass rfl rfl (Ops_pass rfl rfl ?_))))
     refine Ops_pass rfl rfl (Ops_pass rfl rfl (Ops_step (R_pick_true rfl rfl) rfl rfl (Ops_step (R_move rfl) rfl rfl (Ops_pass rfl rfl ?_))))
     refine Ops_pass rfl rfl (Ops_pass rfl rfl (Ops_pass rfl rfl (Ops_pass rfl rfl (Ops_pass rfl rfl ?_))))
     refine Ops_pass rfl rfl (Ops_step (R_pick_true rfl rfl) rfl rfl (Ops_step (R_move rfl) rfl rfl (Ops_pass rfl rfl (Ops_pass rfl rfl ?_))))
     refine Ops_pass rfl rfl (Ops_pass rfl rfl (Ops_pass rfl rfl (Ops_pass rfl rfl (Ops_step (R_pick_true rfl rfl) rfl rfl ?_))))
     refine Ops_nil ?_
     refine then_n ?_
     exact ⟨_, rfl, ⟨true, _, _, rfl, h, hI, hll32_, hhh32_, ho5_0, trivial⟩, ⟨rfl, rfl, trivial⟩⟩
    ·
     replace h := h.2 hg34_
     refine Ops_step (R_move rfl) rfl rfl (Ops_step (R_shr rfl rfl (by decide) (shr32 r30_0 16 (by decide))) rfl rfl (Ops_step (R_conv Try.underlying124 Try.underlying5 rfl (c32_8 _)) rfl rfl (Ops_step (R_move rfl) rfl rfl ?_)))
     refine ex_ h fun x35_ hx35_ h => ?_
     have ha35_ := (hs19_0.atS hx35_).1
     have hg35_ := (hs19_0.atS hx35_).2
     refine Ops_step (R_indexSl Try.underlying29 sz5 rfl rfl hx35_.1 hx35_.lt ha35_) rfl rfl (Ops_step (R_load ag5 rfl (hI.st _ _ hg35_)) rfl rfl (Ops_step (R_neq rfl rfl) rfl rfl (Ops_step (R_pick_false rfl rfl) rfl rfl (Ops_step (R_move rfl) rfl rfl ?_))))
     refine Ops_split 51 rfl (fun hg36_ => ?_) (fun hg36_ => ?_)
     ·
      replace h := h.1 hg36_
      refine Ops_pass rfl rfl (Ops_pass rfl rfl (Ops_pass rfl rfl (Ops_pass rfl rfl (Ops_pass rfl rfl ?_))))
      refine Ops_pass rfl rfl (Ops_pass rfl rfl (Ops_step (R_pick_true rfl rfl) rfl rfl (Ops_step (R_move rfl) rfl rfl (Ops_pass rfl rfl ?_))))
      refine Ops_pass rfl rfl (Ops_pass rfl rfl (Ops_pass rfl rfl (Ops_pass rfl rfl (Ops_pass rfl rfl ?_))))
      refine Ops_step (R_pick_true rfl rfl) rfl rfl ?_
      refine Ops_nil ?_
      refine then_n ?_
      exact ⟨_, rfl, ⟨true, _, _, rfl, h, hI, hll32_, hhh32_, ho5_0, trivial⟩, ⟨rfl, rfl, trivial⟩⟩
     ·
      replace h := h.2 hg36_
      refine Ops_step (R_move rfl) rfl rfl (Ops_step (R_shr rfl rfl (by decide) (shr32 r30_0 8 (by decide))) rfl rfl (Ops_step (R_conv Try.underlying124 Try.underlying5 rfl (c32_8 _)) rfl rfl (Ops_step (R_move rfl) rfl rfl ?_)))
      refine ex_ h fun x37_ hx37_ h => ?_
      have ha37_ := (hs19_0.atS hx37_).1
      have hg37_ := (hs19_0.atS hx37_).2
      refine Ops_step (R_indexSl Try.underlying29 sz5 rfl rfl hx37_.1 hx37_.lt ha37_) rfl rfl (Ops_step (R_load ag5 rfl (hI.st _ _ hg37_)) rfl rfl (Ops_step (R_neq rfl rfl) rfl rfl (Ops_step (R_pick_false rfl rfl) rfl rfl (Ops_step (R_move rfl) rfl rfl ?_))))
      refine Ops_split 60 rfl (fun hg38_ => ?_) (fun hg38_ => ?_)
      ·
       replace h := h.1 hg38_
       refine Ops_pass rfl rfl (Ops_pass rfl rfl (Ops_pass rfl rfl (Ops_pass rfl rfl (Ops_pass rfl rfl ?_))))
       refine Ops_pass rfl rfl (Ops_step (R_pick_true rfl rfl) rfl rfl ?_)
       refine Ops_nil ?_
       refine then_n ?_
       exact ⟨_, rfl, ⟨true, _, _, rfl, h, hI, hll32_, hhh32_, ho5_0, trivial⟩, ⟨rfl, rfl, trivial⟩⟩
      ·
       replace h := h.2 hg38_
       refine Ops_step (R_move rfl) rfl rfl (Ops_step (R_conv Try.underlying124 Try.underlying5 rfl (c32_8 _)) rfl rfl (Ops_step (R_move rfl) rfl rfl ?_))
       refine ex_ h fun x39_ hx39_ h => ?_
       have ha39_ := (hs19_0.atS hx39_).1
       have hg39_ := (hs19_0.atS hx39_).2
       refine Ops_step (R_indexSl Try.underlying29 sz5 rfl rfl hx39_.1 hx39_.lt ha39_) rfl rfl (Ops_step (R_load ag5 rfl (hI.st _ _ hg39_)) rfl rfl (Ops_step (R_neq rfl rfl) rfl rfl (Ops_step (R_pick_false rfl rfl) rfl rfl ?_)))
       refine Ops_nil ?_
       refine then_n ?_
       exact ⟨_, rfl, ⟨(decide (((UInt8.ofBitVec (r30_0.setWidth 8)).toNat : Int) ≠ (x39_.toNat : Int))), _, _, rfl, h, hI, hll32_, hhh32_, ho5_0, trivial⟩, ⟨rfl, rfl, trivial⟩⟩
   ·
    simp only [e_, Nat.reduceAdd, Nat.reduceBEq] at b_
    subst b_
    clear h
    clear ho5_0
    rintro _ w32_ ⟨x67_32, L32_, H32_, rfl, hJ32_, hI32_, hll32_, hhh32_, ho5_0, -⟩
    replace hI := hI32_
    clear hI32_
    have h := hr32_ x67_32 hJ32_
    clear hr32_ hJ32_
    refine W_cond rfl (fun hc40_ => ?_) (fun hc40_ => ?_)
    ·
     replace h := h.1 hc40_
     refine W_seq_k fun K41 k41 => ?_
     refine W_region [2, 3, 4] rfl (Ops_step (R_assign rfl) rfl rfl (Ops_step (R_assign rfl) rfl rfl (Ops_step (R_assign rfl) rfl rfl ?_)))
     refine Ops_nil ?_
     refine then_n (k41 _ _ ?_)
     clear k41 K41
     refine W_ret ?_
     refine then_ret ?_
     clear k25 K25
     refine ⟨_, ⟨_, _, rfl, rfl, ⟨_, _, rfl, rfl, ⟨_, _, rfl, rfl, rfl⟩⟩⟩, ?_⟩
     exact ⟨none, 0, [], 0, 20, _, _, rfl, hI, OwnS.nil, h⟩
    ·
     replace h := h.2 hc40_
     refine W_skip ?_
     refine then_n (k25 _ _ ?_)
     clear k25 K25
     refine W_seq_k fun K42 k42 => ?_
     refine W_region [68, 69, 70, 2, 3, 4] rfl (Ops_step (R_move rfl) rfl rfl (Ops_step (R_move rfl) rfl rfl ?_))
     have hk43_ := h.1
     replace h := h.2
     refine Ops_step (R_add rfl rfl (wI hk43_.1 hk43_.2)) rfl rfl (Ops_step (R_assign rfl) rfl rfl (Ops_step (R_assign rfl) rfl rfl (Ops_step (R_assign rfl) rfl rfl ?_)))
     refine Ops_nil ?_
     refine then_n (k42 _ _ ?_)
     clear k42 K42
     refine W_keepB [2, 3, 4] fun B_ b_ => ?_
     simp only [e_, Nat.reduceAdd, Nat.reduceBEq] at b_
     subst b_
     refine W_ret ?_
     refine ⟨_, ⟨_, _, rfl, rfl, ⟨_, _, rfl, rfl, ⟨_, _, rfl, rfl, rfl⟩⟩⟩, ?_⟩
     exact ⟨A5_0, c5_0, r5_0, (((x0.length : Int) - r15_0) + 4), 0, _, _, rfl, hI, (ho5_0.hl (Le.no _)), h⟩

end Go.Proofs.Ytkmljjhjojolcaa

