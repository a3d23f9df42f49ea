/- What is shown of the program on the way to the law. -/
import Derived.Test.YtkmljjhjojolcaaZn3
import Derived.Test.YtkmljjhjojolcaaZn4
import Derived.Test.YtkmljjhjojolcaaZn5
import Derived.Test.YtkmljjhjojolcaaZn10
import Derived.Test.YtkmljjhjojolcaaZn11
import Derived.Test.YtkmljjhjojolcaaZn12
import Derived.Test.YtkmljjhjojolcaaZn13
import Derived.Test.YtkmljjhjojolcaaZn14
import Derived.Test.YtkmljjhjojolcaaProg
set_option linter.unusedVariables false
set_option linter.unusedSimpArgs false
set_option maxHeartbeats 4000000
namespace Go.Proofs.Ytkmljjhjojolcaa
open Go Go.Sx Go.Lx
namespace TJtJ
theorem hm : Try.prog.follows .mixedOrders = true := by kernel_rfl
theorem ag25 : aggB Try.prog 25 = some false := by kernel_rfl
theorem ag29 : aggB Try.prog 29 = some false := by kernel_rfl
theorem ag3 : aggB Try.prog 3 = some false := by kernel_rfl
theorem ag41 : aggB Try.prog 41 = some false := by kernel_rfl
theorem ag42 : aggB Try.prog 42 = some false := by kernel_rfl
theorem ag85 : aggB Try.prog 85 = some true := by kernel_rfl
theorem bd32 : bodied Try.prog 32 = true := by kernel_rfl
theorem bd39 : bodied Try.prog 39 = true := by kernel_rfl
theorem bd44 : bodied Try.prog 44 = true := by kernel_rfl
theorem bd48 : bodied Try.prog 48 = true := by kernel_rfl
theorem el41 : Elem Try.prog 41 85 2 32 := Elem.of (by kernel_rfl)
theorem fo44_0 : offB Try.prog 44 0 = some 0 := by kernel_rfl
theorem fo44_1 : offB Try.prog 44 1 = some 1 := by kernel_rfl
theorem fo46_0 : offB Try.prog 46 0 = some 0 := by kernel_rfl
theorem fo46_1 : offB Try.prog 46 1 = some 2 := by kernel_rfl
theorem fo85_0 : offB Try.prog 85 0 = some 0 := by kernel_rfl
theorem fo85_1 : offB Try.prog 85 1 = some 1 := by kernel_rfl
theorem sz29 : sz Try.prog 29 = some 1 := by kernel_rfl
theorem sz3 : sz Try.prog 3 = some 1 := by kernel_rfl
theorem sz41 : sz Try.prog 41 = some 1 := by kernel_rfl
theorem sz85 : sz Try.prog 85 = some 2 := by kernel_rfl
theorem zr85 : zr Try.prog 85 = some ([.int .i64 0] ++ [.slice none 0 0]) := by kernel_rfl
end TJtJ
open TJtJ
theorem journal_Journal_Check_v1_ok {G : Gh} {w : World} (hS : St G w) (hg : GL G)  {Q : Int → Prop} (h : journal_Journal_Check_v1  Q) : Calls Try.prog 14 #[.pointer none] w fun e w2 => ∃ (r0 : Int) (L H : Gh), e = .returned (vi r0) ∧ Inv [] G w L H w2 ∧ Q r0 := by
 unfold journal_Journal_Check_v1 at h
 have hI := Inv.start (M := []) hS
 refine calls_W 103 Try.func14 rfl Try.ntmps14 rfl [.tmp 2] rfl ?_
 refine W_seq_k fun K1 k1 => ?_
 refine W_region [2] rfl (Ops_step (R_assign rfl) rfl rfl ?_)
 refine Ops_nil ?_
 refine then_n (k1 _ _ ?_)
 clear k1 K1
 refine W_seq_k fun K2 k2 => ?_
 refine W_block ?_
 refine W_seq_k fun K3 k3 => ?_
 refine W_region [12, 13, 11] rfl (Ops_step (R_move rfl) rfl rfl ?_)
 refine Ops_call (C_func bd39 rfl) rfl rfl ?_
 refine (journal_Journal_dead_v1_ok  hI.st (hg.up hI.le)  h).mono ?_
 rintro _ w4_ ⟨r4_0, L4_, H4_, rfl, hI4_, h⟩
 refine Exists.elim (hI.call hI4_ (by simp)) fun L40_ h4_ => ?_
 have hz4_ := hI.size
 replace hI := h4_.1
 have u4_ := h4_.2.1
 have hl4_ := h4_.2.2
 clear h4_
 clear hI4_ u4_ hl4_
 refine ⟨_, rfl, ?_⟩
 refine Ops_step (R_assign rfl) rfl rfl ?_
 refine Ops_nil ?_
 refine then_n (k3 _ _ ?_)
 clear k3 K3
 refine W_cond rfl (fun hc5_ => ?_) (fun hc5_ => ?_)
 ·
  replace h := h.1 hc5_
  refine W_seq_k fun K6 k6 => ?_
  refine W_region [2] rfl (Ops_step (R_assign rfl) rfl rfl ?_)
  refine Ops_nil ?_
  refine then_n (k6 _ _ ?_)
  clear k6 K6
  refine W_ret ?_
  refine block_ret ?_
  refine then_ret ?_
  clear k2 K2
  refine ⟨_, ⟨_, _, rfl, rfl, rfl⟩, ?_⟩
  exact ⟨6, _, _, rfl, hI, h⟩
 ·
  replace h := h.2 hc5_
  refine W_seq_k fun K7 k7 => ?_
  refine W_region [15, 16, 17, 18, 19, 14] rfl (Ops_step (R_move rfl) rfl rfl ?_)
  exact h.elim

theorem journal_Journal_Bytes_v1_ok {G : Gh} {w : World} (hS : St G w) (hg : GL G) {x1 : Int} {Q : Int → Prop} (h : journal_Journal_Bytes_v1 x1 Q) : Calls Try.prog 17 #[.pointer none, vi x1] w fun e w2 => ∃ (r0 : Int) (L H : Gh), e = .returned (vi r0) ∧ Inv [] G w L H w2 ∧ Q r0 := by
 unfold journal_Journal_Bytes_v1 at h
 have hI := Inv.start (M := []) hS
 refine calls_W 14 Try.func17 rfl Try.ntmps17 rfl [.tmp 4] rfl ?_
 refine W_seq_k fun K1 k1 => ?_
 refine W_region [4] rfl (Ops_step (R_assign rfl) rfl rfl ?_)
 refine Ops_nil ?_
 refine then_n (k1 _ _ ?_)
 clear k1 K1
 refine W_seq_k fun K2 k2 => ?_
 refine W_seq_k fun K3 k3 => ?_
 refine W_region [5, 6] rfl (Ops_step (R_move rfl) rfl rfl ?_)
 refine Ops_call (C_func bd39 rfl) rfl rfl ?_
 refine (journal_Journal_dead_v1_ok  hI.st (hg.up hI.le)  h).mono ?_
 rintro _ w4_ ⟨r4_0, L4_, H4_, rfl, hI4_, h⟩
 refine Exists.elim (hI.call hI4_ (by simp)) fun L40_ h4_ => ?_
 have hz4_ := hI.size
 replace hI := h4_.1
 have u4_ := h4_.2.1
 have hl4_ := h4_.2.2
 clear h4_
 clear hI4_ u4_ hl4_
 refine ⟨_, rfl, ?_⟩
 refine Ops_nil ?_
 refine then_n (k3 _ _ ?_)
 clear k3 K3
 refine W_cond rfl (fun hc5_ => ?_) (fun hc5_ => ?_)
 ·
  replace h := h.1 hc5_
  refine W_seq_k fun K6 k6 => ?_
  refine W_region [4] rfl (Ops_step (R_assign rfl) rfl rfl ?_)
  refine Ops_nil ?_
  refine then_n (k6 _ _ ?_)
  clear k6 K6
  refine W_ret ?_
  refine then_ret ?_
  clear k2 K2
  refine ⟨_, ⟨_, _, rfl, rfl, rfl⟩, ?_⟩
  exact ⟨0, _, _, rfl, hI, h⟩
 ·
  replace h := h.2 hc5_
  refine W_skip ?_
  refine then_n (k2 _ _ ?_)
  clear k2 K2
  refine W_seq_k fun K7 k7 => ?_
  refine W_region [7, 8, 9, 10, 11, 12, 13, 4] rfl (Ops_step (R_move rfl) rfl rfl ?_)
  exact h.elim

theorem journal_Journal_dead_v2_ok {G : Gh} {w : World} (hS : St G w) (hg : GL G) {d0 : Nat} {z0 : journal_Journal} {Ad0_1 : Option Addr} {cd0_1 : Nat} (htd0 : Tok G w d0 46 ([.slice Ad0_1 z0.book_.l_.length cd0_1, .map none, .pointer none, vi z0.gen_, vi z0.place_])) (hcd0_1 : z0.book_.l_.length ≤ cd0_1) (hsd0_1 : Sl G Ad0_1 z0.book_.l_) {Q : Bool → Prop} (h : journal_Journal_dead_v2 z0 Q) : Calls Try.prog 39 #[.pointer (some ⟨d0, 0, none⟩)] w fun e w2 => ∃ (r0 : Bool) (L H : Gh), e = .returned (.bool r0) ∧ Inv [] G w L H w2 ∧ Q r0 := by
 unfold journal_Journal_dead_v2 at h
 have hI := Inv.start (M := []) hS
 refine calls_W 12 Try.func39 rfl Try.ntmps39 rfl [.tmp 2] rfl ?_
 have hlt_d0 := htd0.blk.lt
 refine W_seq_k fun K1 k1 => ?_
 refine W_region [2] rfl (Ops_step (R_assign rfl) rfl rfl ?_)
 refine Ops_nil ?_
 refine then_n (k1 _ _ ?_)
 clear k1 K1
 refine W_seq_k fun K2 k2 => ?_
 refine W_region [3, 4, 5, 6, 7, 8, 9, 10, 11, 2] rfl (Ops_step (R_move rfl) rfl rfl (Ops_step (R_ptrNil Try.underlying26 rfl rfl) rfl rfl (Ops_step (R_move rfl) rfl rfl (Ops_step (R_move rfl) rfl rfl ?_))))
 refine Ops_step (R_nilCheck rfl) rfl rfl (Ops_step (R_fieldAddr fo46_1 rfl) rfl rfl ?_)
 refine Ops_step (R_loadB (v := .pointer none) ag25 rfl htd0.blk rfl) rfl rfl ?_
 refine Ops_step (R_ptrNil Try.underlying25 rfl rfl) rfl rfl (Ops_step (R_pick_false rfl rfl) rfl rfl (Ops_step (R_assign rfl) rfl rfl ?_))
 refine Ops_nil ?_
 refine then_n (k2 _ _ ?_)
 clear k2 K2
 refine W_keepB [2] fun B_ b_ => ?_
 simp only [e_, Nat.reduceAdd, Nat.reduceBEq] at b_
 subst b_
 refine W_ret ?_
 refine ⟨_, ⟨_, _, rfl, rfl, rfl⟩, ?_⟩
 exact ⟨true, _, _, rfl, hI, h⟩

theorem journal_Journal_At_v2_ok {G : Gh} {w : World} (hS : St G w) (hg : GL G) {d0 : Nat} {z0 : journal_Journal} {Ad0_1 : Option Addr} {cd0_1 : Nat} (htd0 : Tok G w d0 46 ([.slice Ad0_1 z0.book_.l_.length cd0_1, .map none, .pointer none, vi z0.gen_, vi z0.place_])) (hcd0_1 : z0.book_.l_.length ≤ cd0_1) (hsd0_1 : Sl G Ad0_1 z0.book_.l_) {x1 : Int} {Q : Int → (List UInt8) → Bool → Prop} (h : journal_Journal_At_v2 z0 x1 Q) : Calls Try.prog 18 #[.pointer (some ⟨d0, 0, none⟩), vi x1] w fun e w2 => ∃ (r0 : Int) (A1 : Option Addr) (c1 : Nat) (r1 : List UInt8) (r2 : Bool) (L H : Gh), e = .returned (.tuple #[vi r0, .slice A1 r1.length c1, .bool r2]) ∧ Inv [] G w L H w2 ∧ OwnS w.heap.size 5 L H w2 A1 c1 r1 ∧ Q r0 r1 r2 := by
 unfold journal_Journal_At_v2 at h
 have hI := Inv.start (M := []) hS
 refine calls_W 42 Try.func18 rfl Try.ntmps18 rfl [.tmp 4, .tmp 5, .tmp 6] rfl ?_
 have hlt_d0 := htd0.blk.lt
 refine W_seq_k fun K1 k1 => ?_
 refine W_region [4, 5, 6] rfl (Ops_step (R_assign rfl) rfl rfl (Ops_step (R_assign rfl) rfl rfl (Ops_step (R_assign rfl) rfl rfl ?_)))
 refine Ops_nil ?_
 refine then_n (k1 _ _ ?_)
 clear k1 K1
 refine W_seq_k fun K2 k2 => ?_
 refine ex_ h fun J3_ hr3_ h => ?_
 refine W_seq_join [0, 1] [22] (fun vals_ w2 => ∃ (x22_3 : Bool) (L H : Gh), vals_ = [.bool x22_3] ∧ J3_ x22_3 ∧ Inv [] G w L H w2 ∧ Le Gh.no L ∧ Le G H ∧ Tok H w2 d0 46 ([.slice Ad0_1 z0.book_.l_.length cd0_1, .map none, .pointer none, vi z0.gen_, vi z0.place_]) ∧ True) (fun B_ b_ => ?_) (fun B_ b_ => ?_)
 ·
  simp only [e_, Nat.reduceAdd, Nat.reduceBEq] at b_
  subst b_
  clear hr3_
  have hll3_ := Le.refl Gh.no
  have hhh3_ := Le.refl G
  refine W_region [7, 8, 9, 10, 11, 12, 13, 14, 15, 16, 17, 18, 19, 20, 21, 22] rfl (Ops_step (R_move rfl) rfl rfl ?_)
  refine Ops_call (C_func bd39 rfl) rfl rfl ?_
  refine (journal_Journal_dead_v2_ok (z0 := z0) hI.st (hg.up hI.le) htd0 hcd0_1 hsd0_1 h).mono ?_
  rintro _ w4_ ⟨r4_0, L4_, H4_, rfl, hI4_, h⟩
  refine Exists.elim (hI.call hI4_ (by simp)) fun L40_ h4_ => ?_
  have hz4_ := hI.size
  replace hI := h4_.1
  have u4_ := h4_.2.1
  have hl4_ := h4_.2.2
  clear h4_
  replace hsd0_1 := hsd0_1.up u4_.hh
  replace htd0 := htd0.up u4_ (by simp)
  replace hll3_ := hll3_.trans u4_.ll
  replace hhh3_ := hhh3_.trans u4_.hh
  clear hI4_ u4_ hl4_
  refine ⟨_, rfl, ?_⟩
  refine Ops_step (R_move rfl) rfl rfl ?_
  refine Ops_splitB 9 rfl (fun hg5_ => ?_) (fun hg5_ => ?_)
  ·
   replace h := h.1 hg5_
   refine Ops_pass rfl rfl (Ops_pass rfl rfl (Ops_step (R_pick_true rfl rfl) rfl rfl (Ops_step (R_move rfl) rfl rfl (Ops_pass rfl rfl ?_))))
   refine Ops_pass rfl rfl (Ops_pass rfl rfl (Ops_pass rfl rfl (Ops_pass rfl rfl (Ops_pass rfl rfl ?_))))
   refine Ops_pass rfl rfl (Ops_pass rfl rfl (Ops_step (R_pick_true rfl rfl) rfl rfl ?_))
   refine Ops_nil ?_
   refine then_n ?_
   exact ⟨_, rfl, ⟨true, _, _, rfl, h, hI, hll3_, hhh3_, htd0, trivial⟩, ⟨rfl, rfl, trivial⟩⟩
  ·
   replace h := h.2 hg5_
   refine Ops_step (R_move rfl) rfl rfl (Ops_step (R_lss rfl rfl) rfl rfl (Ops_step (R_pick_false rfl rfl) rfl rfl (Ops_step (R_move rfl) rfl rfl ?_)))
   refine Ops_split 13 rfl (fun hg6_ => ?_) (fun hg6_ => ?_)
   ·
    replace h := h.1 hg6_
    refine Ops_pass rfl rfl (Ops_pass rfl rfl (Ops_pass rfl rfl (Ops_pass rfl rfl (Ops_pass rfl rfl ?_))))
    refine Ops_pass rfl rfl (Ops_pass rfl rfl (Ops_pass rfl rfl (Ops_step (R_pick_true rfl rfl) rfl rfl ?_)))
    refine Ops_nil ?_
    refine then_n ?_
    exact ⟨_, rfl, ⟨true, _, _, rfl, h, hI, hll3_, hhh3_, htd0, trivial⟩, ⟨rfl, rfl, trivial⟩⟩
   ·
    replace h := h.2 hg6_
    refine Ops_step (R_move rfl) rfl rfl (Ops_step (R_move rfl) rfl rfl (Ops_step (R_nilCheck rfl) rfl rfl (Ops_step (R_fieldAddr fo46_0 rfl) rfl rfl (Ops_step (R_fieldAddr fo44_0 rfl) rfl rfl ?_))))
    refine Ops_step (R_loadB (v := .slice Ad0_1 z0.book_.l_.length cd0_1) ag41 rfl htd0.blk rfl) rfl rfl ?_
    refine Ops_step (R_len Try.underlying41 rfl rfl) rfl rfl (Ops_step (R_geq rfl rfl) rfl rfl (Ops_step (R_pick_false rfl rfl) rfl rfl ?_))
    refine Ops_nil ?_
    refine then_n ?_
    exact ⟨_, rfl, ⟨(decide (x1 ≥ (z0.book_.l_.length : Int))), _, _, rfl, h, hI, hll3_, hhh3_, htd0, trivial⟩, ⟨rfl, rfl, trivial⟩⟩
 ·
  simp only [e_, Nat.reduceAdd, Nat.reduceBEq] at b_
  subst b_
  clear h
  clear htd0
  rintro _ w3_ ⟨x22_3, L3_, H3_, rfl, hJ3_, hI3_, hll3_, hhh3_, htd0, -⟩
  replace hI := hI3_
  clear hI3_
  have h := hr3_ x22_3 hJ3_
  clear hr3_ hJ3_
  replace hsd0_1 := hsd0_1.up hhh3_
  refine W_cond rfl (fun hc7_ => ?_) (fun hc7_ => ?_)
  ·
   replace h := h.1 hc7_
   refine W_seq_k fun K8 k8 => ?_
   refine W_region [4, 5, 6] rfl (Ops_step (R_assign rfl) rfl rfl (Ops_step (R_assign rfl) rfl rfl (Ops_step (R_assign rfl) rfl rfl ?_)))
   refine Ops_nil ?_
   refine then_n (k8 _ _ ?_)
   clear k8 K8
   refine W_ret ?_
   refine then_ret ?_
   clear k2 K2
   refine ⟨_, ⟨_, _, rfl, rfl, ⟨_, _, rfl, rfl, ⟨_, _, rfl, rfl, rfl⟩⟩⟩, ?_⟩
   exact ⟨0, none, 0, [], false, _, _, rfl, hI, OwnS.nil, h⟩
  ·
   replace h := h.2 hc7_
   refine W_skip ?_
   refine then_n (k2 _ _ ?_)
   clear k2 K2
   refine W_seq_k fun K9 k9 => ?_
   refine W_drawF [23, 24, 25, 26, 27, 28, 29, 30, 31, 32, 33, 34, 35, 36, 37, 38, 39, 40, 41, 4, 5, 6] [(0, true), (1, true), (2, true), (3, true), (4, true), (5, true), (6, true), (7, true), (8, true), (9, true), (10, true), (11, true), (12, true), (13, true), (14, true), (15, true), (16, true), (17, true), (18, false), (19, true), (20, true), (21, true)] TJtJ.hm rfl (by kernel_rfl) fun ops10_ w10_ hops10_ hF10_ => ?_
   replace hI := hI.fr0 hF10_
   replace htd0 := htd0.fr0 hF10_
   clear hF10_
   refine HSp (R_move rfl) rfl rfl (HSp (R_nilCheck rfl) rfl rfl (HSp (R_fieldAddr fo46_0 rfl) rfl rfl (HSp (R_fieldAddr fo44_0 rfl) rfl rfl ?_)))
   refine HS_loadB (v := .slice Ad0_1 z0.book_.l_.length cd0_1) ag41 rfl htd0.blk rfl rfl rfl ?_
   refine HSp (R_move rfl) rfl rfl ?_
   refine ex_ h fun x11_ hx11_ h => ?_
   have ha11_ := (Sl.atN (n := 2) rfl (by decide) hsd0_1 hx11_).1
   refine Exists.elim (Sl.atN (n := 2) rfl (by decide) hsd0_1 hx11_).2 fun l11_ hA11_ => ?_
   have hr11_ := hA11_.1
   have hg11_ := hA11_.2
   clear hA11_
   refine HSp (R_indexSl Try.underlying41 sz85 rfl rfl hx11_.1 hx11_.lt ha11_) rfl rfl ?_
   obtain ⟨A11_1, c11_1, rfl, ⟨hc11_1, hs11_1⟩⟩ := hr11_
   refine HSp (R_fieldAddr' fo85_0 rfl) rfl rfl ?_
   refine HS_load (v := vi x11_.label_) ag3 rfl (hI.st _ _ (hg11_ 0 _ rfl)) rfl rfl ?_
   refine HSp (R_move rfl) rfl rfl (HSp (R_nilCheck rfl) rfl rfl (HSp (R_fieldAddr fo46_0 rfl) rfl rfl (HSp (R_fieldAddr fo44_0 rfl) rfl rfl ?_)))
   refine HS_loadB (v := .slice Ad0_1 z0.book_.l_.length cd0_1) ag41 rfl htd0.blk rfl rfl rfl ?_
   refine HSp (R_move rfl) rfl rfl ?_
   refine ex_ h fun x12_ hx12_ h => ?_
   have ha12_ := (Sl.atN (n := 2) rfl (by decide) hsd0_1 hx12_).1
   refine Exists.elim (Sl.atN (n := 2) rfl (by decide) hsd0_1 hx12_).2 fun l12_ hA12_ => ?_
   have hr12_ := hA12_.1
   have hg12_ := hA12_.2
   clear hA12_
   refine HSp (R_indexSl Try.underlying41 sz85 rfl rfl hx12_.1 hx12_.lt ha12_) rfl rfl ?_
   obtain ⟨A12_1, c12_1, rfl, ⟨hc12_1, hs12_1⟩⟩ := hr12_
   refine HSp (R_fieldAddr' fo85_1 rfl) rfl rfl ?_
   refine HS_load (v := .slice A12_1 x12_.data_.length c12_1) ag29 rfl (hI.st _ _ (hg12_ 1 _ rfl)) rfl rfl ?_
   refine HS_call [8, 4] _ rfl (by rw [hops10_]; kernel_rfl) (C_func bd32 rfl) rfl rfl ?_
   refine (slices_Clone_sl_byte_byte_ok (x0 := x12_.data_) hI.st (hg.up hI.le) hc12_1 hs12_1 h).mono ?_
   rintro _ w13_ ⟨A13_0, c13_0, r13_0, L13_, H13_, rfl, hI13_, ho13_0, h⟩
   refine Exists.elim (hI.call hI13_ (by simp)) fun L130_ h13_ => ?_
   have hz13_ := hI.size
   replace hI := h13_.1
   have u13_ := h13_.2.1
   have hl13_ := h13_.2.2
   clear h13_
   replace hsd0_1 := hsd0_1.up u13_.hh
   replace htd0 := htd0.up u13_ (by simp)
   replace hg11_ := fun j_ v_ k_ => u13_.hh _ _ (hg11_ j_ v_ k_)
   replace hg12_ := fun j_ v_ k_ => u13_.hh _ _ (hg12_ j_ v_ k_)
   replace ho13_0 := OwnS.backS ho13_0 hz13_ (Le.refl _)
   clear hI13_ u13_ hl13_
   refine ⟨_, rfl, ⟨(hI.st _ _ (hg11_ 0 _ rfl)), (htd0.blk.at_ rfl), trivial⟩, ?_⟩
   refine HSp (R_assign rfl) rfl rfl (HSp (R_assign rfl) rfl rfl (HSp (R_assign rfl) rfl rfl ?_))
   refine HS_nil ?_
   clear hops10_
   refine then_n (k9 _ _ ?_)
   clear k9 K9
   refine W_keepB [4, 5, 6] fun B_ b_ => ?_
   simp only [e_, Nat.reduceAdd, Nat.reduceBEq] at b_
   subst b_
   refine W_ret ?_
   refine ⟨_, ⟨_, _, rfl, rfl, ⟨_, _, rfl, rfl, ⟨_, _, rfl, rfl, rfl⟩⟩⟩, ?_⟩
   exact ⟨x11_.label_, A13_0, c13_0, r13_0, true, _, _, rfl, hI, (ho13_0.hl (Le.no _)), h⟩

theorem disk_Disk_able_v1_ok {G : Gh} {w : World} (hS : St G w) (hg : GL G) {x1 : Int} {Q : Int → Prop} (h : disk_Disk_able_v1 x1 Q) : Calls Try.prog 48 #[.pointer none, vi x1] w fun e w2 => ∃ (r0 : Int) (L H : Gh), e = .returned (vi r0) ∧ Inv [] G w L H w2 ∧ Q r0 := by
 unfold disk_Disk_able_v1 at h
 have hI := Inv.start (M := []) hS
 refine calls_W 27 Try.func48 rfl Try.ntmps48 rfl [.tmp 4] rfl ?_
 refine W_seq_k fun K1 k1 => ?_
 refine W_region [4] rfl (Ops_step (R_assign rfl) rfl rfl ?_)
 refine Ops_nil ?_
 refine then_n (k1 _ _ ?_)
 clear k1 K1
 refine W_seq_k fun K2 k2 => ?_
 refine W_block ?_
 refine ex_ h fun J3_ hr3_ h => ?_
 refine W_seq_join [0, 1] [5] (fun vals_ w2 => ∃ (x5_3 : Bool) (L H : Gh), vals_ = [.bool x5_3] ∧ J3_ x5_3 ∧ Inv [] G w L H w2 ∧ Le Gh.no L ∧ Le G H ∧ True) (fun B_ b_ => ?_) (fun B_ b_ => ?_)
 ·
  simp only [e_, Nat.reduceAdd, Nat.reduceBEq] at b_
  subst b_
  clear hr3_
  have hll3_ := Le.refl Gh.no
  have hhh3_ := Le.refl G
  refine W_region [6, 7, 8, 9, 10, 11, 12, 13, 14, 5] rfl (Ops_step (R_move rfl) rfl rfl (Ops_step (R_ptrNil Try.underlying25 rfl rfl) rfl rfl (Ops_step (R_move rfl) rfl rfl (Ops_pass rfl rfl ?_))))
  refine Ops_pass rfl rfl (Ops_pass rfl rfl (Ops_pass rfl rfl (Ops_pass rfl rfl (Ops_step (R_pick_true rfl rfl) rfl rfl ?_))))
  refine Ops_step (R_assign rfl) rfl rfl ?_
  refine Ops_nil ?_
  refine then_n ?_
  exact ⟨_, rfl, ⟨true, _, _, rfl, h, hI, hll3_, hhh3_, trivial⟩, ⟨rfl, rfl, trivial⟩⟩
 ·
  simp only [e_, Nat.reduceAdd, Nat.reduceBEq] at b_
  subst b_
  clear h
  rintro _ w3_ ⟨x5_3, L3_, H3_, rfl, hJ3_, hI3_, hll3_, hhh3_, -⟩
  replace hI := hI3_
  clear hI3_
  have h := hr3_ x5_3 hJ3_
  clear hr3_ hJ3_
  refine W_cond rfl (fun hc4_ => ?_) (fun hc4_ => ?_)
  ·
   replace h := h.1 hc4_
   refine W_seq_k fun K5 k5 => ?_
   refine W_region [4] rfl (Ops_step (R_assign rfl) rfl rfl ?_)
   refine Ops_nil ?_
   refine then_n (k5 _ _ ?_)
   clear k5 K5
   refine W_ret ?_
   refine block_ret ?_
   refine then_ret ?_
   clear k2 K2
   refine ⟨_, ⟨_, _, rfl, rfl, rfl⟩, ?_⟩
   exact ⟨6, _, _, rfl, hI, h⟩
  ·
   replace h := h.2 hc4_
   refine W_seq_k fun K6 k6 => ?_
   refine W_region [16, 17, 18, 19, 15] rfl (Ops_step (R_move rfl) rfl rfl ?_)
   exact h.elim

theorem disk_Disk_Append_v1_ok {G : Gh} {w : World} (hS : St G w) (hg : GL G) {x1 : Int} {A2 : Option Addr} {c2 : Nat} {x2 : List UInt8} (hc2 : x2.length ≤ c2) (hs2 : Sl G A2 x2) {Q : Int → Prop} (h : disk_Disk_Append_v1 x1 x2 Q) : Calls Try.prog 26 #[.pointer none, vi x1, .slice A2 x2.length c2] w fun e w2 => ∃ (r0 : Int) (L H : Gh), e = .returned (vi r0) ∧ Inv [] G w L H w2 ∧ Q r0 := by
 unfold disk_Disk_Append_v1 at h
 have hI := Inv.start (M := []) hS
 refine calls_W 55 Try.func26 rfl Try.ntmps26 rfl [.tmp 6] rfl ?_
 refine W_seq_k fun K1 k1 => ?_
 refine W_region [6] rfl (Ops_step (R_assign rfl) rfl rfl ?_)
 refine Ops_nil ?_
 refine then_n (k1 _ _ ?_)
 clear k1 K1
 refine W_seq_k fun K2 k2 => ?_
 refine W_region [10, 11, 12, 7] rfl (Ops_step (R_move rfl) rfl rfl (Ops_step (R_move rfl) rfl rfl ?_))
 refine Ops_call (C_func bd48 rfl) rfl rfl ?_
 refine (disk_Disk_able_v1_ok (x1 := x1) hI.st (hg.up hI.le)  h).mono ?_
 rintro _ w3_ ⟨r3_0, L3_, H3_, rfl, hI3_, h⟩
 refine Exists.elim (hI.call hI3_ (by simp)) fun L30_ h3_ => ?_
 have hz3_ := hI.size
 replace hI := h3_.1
 have u3_ := h3_.2.1
 have hl3_ := h3_.2.2
 clear h3_
 replace hs2 := hs2.up u3_.hh
 clear hI3_ u3_ hl3_
 refine ⟨_, rfl, ?_⟩
 refine Ops_step (R_assign rfl) rfl rfl ?_
 refine Ops_nil ?_
 refine then_n (k2 _ _ ?_)
 clear k2 K2
 refine W_seq_k fun K4 k4 => ?_
 refine W_block ?_
 refine W_seq_k fun K5 k5 => ?_
 refine W_region [14, 15, 13] rfl (Ops_step (R_move rfl) rfl rfl (Ops_step (R_neq rfl rfl) rfl rfl (Ops_step (R_assign rfl) rfl rfl ?_)))
 refine Ops_nil ?_
 refine then_n (k5 _ _ ?_)
 clear k5 K5
 refine W_keepB [0, 1, 2, 7, 13] fun B_ b_ => ?_
 simp only [e_, Nat.reduceAdd, Nat.reduceBEq] at b_
 subst b_
 refine W_if rfl (fun hc7_ => ?_) (fun hc7_ => ?_)
 ·
  replace h := h.1 hc7_
  refine W_seq_k fun K8 k8 => ?_
  refine W_region [16, 6] rfl (Ops_step (R_move rfl) rfl rfl (Ops_step (R_assign rfl) rfl rfl ?_))
  refine Ops_nil ?_
  refine then_n (k8 _ _ ?_)
  clear k8 K8
  refine W_keepB [6] fun B_ b_ => ?_
  simp only [e_, Nat.reduceAdd, Nat.reduceBEq] at b_
  subst b_
  refine W_ret ?_
  refine block_ret ?_
  refine then_ret ?_
  clear k4 K4
  refine ⟨_, ⟨_, _, rfl, rfl, rfl⟩, ?_⟩
  exact ⟨r3_0, _, _, rfl, hI, h⟩
 ·
  replace h := h.2 hc7_
  refine W_seq_k fun K10 k10 => ?_
  refine W_drawF [18, 19, 20, 21, 22, 23, 24, 25, 26, 27, 17] [(0, true), (1, true), (2, true), (3, true), (4, true), (5, true), (6, true), (7, false), (8, true), (9, true), (10, true)] TJtJ.hm rfl (by kernel_rfl) fun ops11_ w11_ hops11_ hF11_ => ?_
  replace hI := hI.fr0 hF11_
  clear hF11_
  refine HSp (R_move rfl) rfl rfl (HSp (R_len Try.underlying29 rfl rfl) rfl rfl (HSp (R_move rfl) rfl rfl ?_))
  exact h.elim

theorem journal_book_add_v1_ok {G : Gh} {w : World} (hS : St G w) (hg : GL G) {d0 : Nat} {z0 : journal_Journal} {Ad0_1 : Option Addr} {cd0_1 : Nat} (htd0 : Tok G w d0 46 ([.slice Ad0_1 z0.book_.l_.length cd0_1, .map none, .pointer none, vi z0.gen_, vi z0.place_])) (hcd0_1 : z0.book_.l_.length ≤ cd0_1) (hsd0_1 : Sl G Ad0_1 z0.book_.l_) {l1 : List Value} {x1 : journal_record} (hr1 : Rp.cs G x1 l1)  (h : journal_book_add_v1 z0 x1 ) : Calls Try.prog 43 #[.pointer (some ⟨d0, 0 + 0, none⟩), .agg l1.toArray] w fun e w2 => False := by
 unfold journal_book_add_v1 at h
 have hI := Inv.start (M := [d0]) hS
 refine calls_W 36 Try.func43 rfl Try.ntmps43 rfl [] rfl ?_
 obtain ⟨A1_1, c1_1, rfl, ⟨hc1_1, hs1_1⟩⟩ := hr1
 have hlt_d0 := htd0.blk.lt
 refine W_seq_k fun K1 k1 => ?_
 refine W_region [3] rfl ?_
 have hI0_ := hI
 refine Ops_to (R_box rfl) rfl rfl ?_
 rintro _ w2_ ⟨b2_, rfl, hb2_, hB2_, hF2_⟩
 replace hI := hI.fr0 hF2_
 replace htd0 := htd0.fr0 hF2_
 have ht2_ : Tok G _ b2_ 85 ([vi x1.label_, .slice A1_1 x1.data_.length c1_1]) := ⟨hB2_.to rfl, Out.ge hI0_.st (Nat.le_of_eq hb2_.symm)⟩
 have hge_b2_ : w.heap.size ≤ b2_ := hb2_ ▸ hI0_.size
 clear hB2_ hb2_ hI0_ hF2_
 refine Ops_nil ?_
 refine then_n (k1 _ _ ?_)
 clear k1 K1
 refine W_seq_k fun K3 k3 => ?_
 refine W_drawF [4, 5, 6, 7, 8, 9, 10, 11, 12, 13, 14, 15, 16, 17, 18, 19, 20, 21, 22, 23, 24, none] [(0, true), (1, true), (2, true), (3, true), (4, true), (5, true), (6, true), (7, true), (8, true), (9, true), (10, true), (11, true), (12, true), (13, true), (14, true), (15, true), (16, true), (17, false), (18, false), (19, true), (20, true), (21, false)] TJtJ.hm rfl (by kernel_rfl) fun ops4_ w4_ hops4_ hF4_ => ?_
 replace hI := hI.fr0 hF4_
 replace htd0 := htd0.fr0 hF4_
 replace ht2_ := ht2_.fr0 hF4_
 clear hF4_
 refine HSp (R_move rfl) rfl rfl (HSp (R_move rfl) rfl rfl (HSp (R_nilCheck rfl) rfl rfl (HSp (R_fieldAddr fo44_0 rfl) rfl rfl ?_)))
 refine HS_loadB (v := .slice Ad0_1 z0.book_.l_.length cd0_1) ag41 rfl htd0.blk rfl rfl rfl ?_
 refine HSp (R_move rfl) rfl rfl (HSp (R_nilCheck rfl) rfl rfl (HSp (R_fieldAddr fo44_0 rfl) rfl rfl ?_))
 refine HS_loadB (v := .slice Ad0_1 z0.book_.l_.length cd0_1) ag41 rfl htd0.blk rfl rfl rfl ?_
 refine HSp (R_len Try.underlying41 rfl rfl) rfl rfl (HSp (R_move rfl) rfl rfl (HSp (R_nilCheck rfl) rfl rfl (HSp (R_fieldAddr fo44_0 rfl) rfl rfl ?_)))
 refine HS_loadB (v := .slice Ad0_1 z0.book_.l_.length cd0_1) ag41 rfl htd0.blk rfl rfl rfl ?_
 refine HSp (R_len Try.underlying41 rfl rfl) rfl rfl ?_
 have hk6_ := h.1
 replace h := h.2
 refine Exists.elim (cut_ex3 (n := 2) hsd0_1 rfl (by decide) (Int.le_refl 0) hk6_ (Int.le_refl _)) fun A5_ h5_ => ?_
 have hr5_ := h5_.1
 have hs5_ := h5_.2
 clear h5_
 refine HSp (X_slice3 (xs := z0.book_.l_) Try.underlying41 sz85 rfl hr5_ hcd0_1 rfl rfl rfl (Int.le_refl 0) hk6_ (Int.le_refl _)) rfl rfl ?_
 clear hr5_
 refine HS_loadN ag85 sz85 rfl ht2_.blk (Nat.le_of_ble_eq_true rfl) rfl rfl ?_
 have hlo7_b2_ := ht2_.blk.lt
 refine HS_to [13, 8, 4] _ rfl (by rw [hops4_]; kernel_rfl) (R_buildSlice el41 zr85 (by decide) (by decide) rfl rfl) rfl rfl ?_
 rintro _ w7_ ⟨b7_, rfl, hb7_, hB7_, hF7_⟩
 have ho7_ : OwnS w.heap.size 85 G G _ (some ⟨b7_, 0, none⟩) 1 ([x1] : List journal_record) := OwnS.ofBlk (css := [[vi x1.label_, .slice A1_1 x1.data_.length c1_1]]) hI.st hb7_ hB7_ (.cons ⟨A1_1, c1_1, rfl, ⟨hc1_1, hs1_1⟩⟩ .nil) rfl (by have := hI.size; omega) (by show 1 ≤ maxLen; decide)
 replace hI := hI.fr0 hF7_
 replace htd0 := htd0.fr0 hF7_
 replace ht2_ := ht2_.fr0 hF7_
 clear hF7_ hB7_
 have hsq7_b2_ : ∀ i_ ∈ bk (some ⟨b7_, 0, none⟩) 1, i_ ∉ [b2_] := fun i_ hi_ hm_ => by have h_ := (fun i_ hi_ => by have := (bk_of hi_).1; simp only [blkOf, List.mem_singleton] at this; omega) i_ hi_; rw [List.mem_singleton] at hm_; omega
 refine ⟨⟨(htd0.blk.at_ rfl), (htd0.blk.at_ rfl), (htd0.blk.at_ rfl), trivial⟩, ?_⟩
 have hk9_ := h.1
 replace h := h.2
 have hlo8_b2_ := ht2_.blk.lt
 refine HS_to [] _ rfl (by rw [hops4_]; kernel_rfl) (X_appendTight (α := journal_record) (xs := (cut z0.book_.l_ 0 (z0.book_.l_.length : Int))) (ys := ([x1] : List journal_record)) (B := _) el41 rfl rfl rfl hs5_ (Srcs.ofOwn Try.underlying41 ho7_ (by decide)) (by show 0 < 1; decide) hI.st hI.st hk9_ (by decide) (Nat.le_refl _)) rfl rfl ?_
 rintro _ w8_ ⟨A8_, c8_, rfl, ho8_, hF8_⟩
 have hsq8_b2_ : ∀ i_ ∈ bk A8_ c8_, i_ ∉ [b2_] := fun i_ hi_ hm_ => by have h_ := ho8_.off i_ hi_; rw [List.mem_singleton] at hm_; omega
 replace ho8_ := ho8_.le hI.size
 replace hI := hI.fr0 hF8_
 replace htd0 := htd0.fr0 hF8_
 replace ht2_ := ht2_.fr0 hF8_
 clear hF8_
 refine ⟨trivial, ?_⟩
 refine HSp (R_nilCheck rfl) rfl rfl (HSp (R_fieldAddr fo44_0 rfl) rfl rfl ?_)
 refine Exists.elim (ho8_.freeze hI) fun L11_ h11_ => Exists.elim h11_ fun H11_ h11_ => ?_
 replace hI := h11_.1
 have u11_ := h11_.2.1
 have hs11_ := h11_.2.2.2 (Le.refl _)
 have hc11_ := ho8_.cap
 replace hsd0_1 := hsd0_1.up u11_.hh
 replace htd0 := htd0.up u11_ (ho8_.old hlt_d0)
 replace hs1_1 := hs1_1.up u11_.hh
 replace ht2_ := ht2_.up u11_ (sep_tok hsq8_b2_)
 clear h11_ u11_ ho8_
 refine HS_to0 [] _ rfl (by rw [hops4_]; kernel_rfl) (R_store sz41 rfl rfl htd0.blk (by show 0 < 5; decide) rfl) rfl ?_
 rintro _ w10_ ⟨hB10_, hF10_⟩
 replace hI := hI.tok hF10_ (out1 htd0.out) (mem1 (by simp))
 replace ht2_ := ht2_.fr hF10_ (ht2_.apart htd0 (by decide))
 replace htd0 : Tok H11_ _ d0 46 ([.slice A8_ (((cut z0.book_.l_ 0 (z0.book_.l_.length : Int)) ++ ([x1] : List journal_record)).length) c8_, .map none, .pointer none, vi z0.gen_, vi z0.place_]) := ⟨hB10_, htd0.out⟩
 clear hF10_ hB10_
 refine ⟨trivial, ?_⟩
 refine HS_nil ?_
 clear hops4_
 refine then_n (k3 _ _ ?_)
 clear k3 K3
 refine W_keepB [0, 3] fun B_ b_ => ?_
 simp only [e_, Nat.reduceAdd, Nat.reduceBEq] at b_
 subst b_
 refine W_drawF [25, 26, 27, 28, 29, 30, 31, 32, 33, 34, 35, none] [(0, true), (1, true), (2, true), (3, true), (4, true), (5, true), (7, true), (8, true), (9, true), (6, false), (10, true), (11, false)] TJtJ.hm rfl (by kernel_rfl) fun ops13_ w13_ hops13_ hF13_ => ?_
 replace hI := hI.fr0 hF13_
 replace htd0 := htd0.fr0 hF13_
 replace ht2_ := ht2_.fr0 hF13_
 clear hF13_
 refine HSp (R_move rfl) rfl rfl (HSp (R_nilCheck rfl) rfl rfl (HSp (R_fieldAddr fo44_1 rfl) rfl rfl ?_))
 refine HS_loadB (v := .map none) ag42 rfl htd0.blk rfl rfl rfl ?_
 refine HSp (R_fieldAddr fo85_0 rfl) rfl rfl ?_
 refine HS_loadB (v := vi x1.label_) ag3 rfl ht2_.blk rfl rfl rfl ?_
 refine HSp (R_fieldAddr fo85_1 rfl) rfl rfl ?_
 refine HS_loadB (v := .slice A1_1 x1.data_.length c1_1) ag29 rfl ht2_.blk rfl rfl rfl ?_
 refine HSp (R_len Try.underlying29 rfl rfl) rfl rfl ?_
 exact h.elim

end Go.Proofs.Ytkmljjhjojolcaa

