/- What is shown of the program on the way to the law. -/
import Derived.Test.YtkmljjhjojolcaaZn3
import Derived.Test.YtkmljjhjojolcaaZn4
import Derived.Test.YtkmljjhjojolcaaZn5
import Derived.Test.YtkmljjhjojolcaaZn10
import Derived.Test.YtkmljjhjojolcaaProg
set_option linter.unusedVariables false
set_option linter.unusedSimpArgs false
set_option maxHeartbeats 4000000
namespace Go.Proofs.Ytkmljjhjojolcaa
open Go Go.Sx Go.Lx
namespace TJtF
theorem hm : Try.prog.follows .mixedOrders = true := by kernel_rfl
theorem ag29 : aggB Try.prog 29 = some false := by kernel_rfl
theorem ag3 : aggB Try.prog 3 = some false := by kernel_rfl
theorem ag4 : aggB Try.prog 4 = some false := by kernel_rfl
theorem bd18 : bodied Try.prog 18 = true := by kernel_rfl
theorem bd19 : bodied Try.prog 19 = true := by kernel_rfl
theorem bd32 : bodied Try.prog 32 = true := by kernel_rfl
theorem bd39 : bodied Try.prog 39 = true := by kernel_rfl
theorem bd48 : bodied Try.prog 48 = true := by kernel_rfl
theorem fo53_3 : offB Try.prog 53 3 = some 5 := by kernel_rfl
theorem fo53_4 : offB Try.prog 53 4 = some 6 := by kernel_rfl
theorem pl85 : partPl Try.prog 85 = some [(0, 1), (1, 1)] := by kernel_rfl
theorem sz29 : sz Try.prog 29 = some 1 := by kernel_rfl
theorem sz3 : sz Try.prog 3 = some 1 := by kernel_rfl
theorem sz4 : sz Try.prog 4 = some 1 := by kernel_rfl
theorem sz85 : sz Try.prog 85 = some 2 := by kernel_rfl
theorem zr53 : zr Try.prog 53 = some (List.replicate 3 (.slice none 0 0) ++ [.int .i64 0] ++ [.bool false] ++ [.bool false] ++ [.int .i64 0]) := by kernel_rfl
theorem zr85 : zr Try.prog 85 = some ([.int .i64 0] ++ [.slice none 0 0]) := by kernel_rfl
end TJtF
open TJtF
theorem journal_Journal_dead_v1_ok {G : Gh} {w : World} (hS : St G w) (hg : GL G)  {Q : Bool → Prop} (h : journal_Journal_dead_v1  Q) : Calls Try.prog 39 #[.pointer none] w fun e w2 => ∃ (r0 : Bool) (L H : Gh), e = .returned (.bool r0) ∧ Inv [] G w L H w2 ∧ Q r0 := by
 unfold journal_Journal_dead_v1 at h
 have hI := Inv.start (M := []) hS
 refine calls_W 12 Try.func39 rfl Try.ntmps39 rfl [.tmp 2] rfl ?_
 refine W_seq_k fun K1 k1 => ?_
 refine W_region [2] rfl (Ops_step (R_assign rfl) rfl rfl ?_)
 refine Ops_nil ?_
 refine then_n (k1 _ _ ?_)
 clear k1 K1
 refine W_seq_k fun K2 k2 => ?_
 refine W_region [3, 4, 5, 6, 7, 8, 9, 10, 11, 2] rfl (Ops_step (R_move rfl) rfl rfl (Ops_step (R_ptrNil Try.underlying26 rfl rfl) rfl rfl (Ops_step (R_move rfl) rfl rfl (Ops_pass rfl rfl ?_))))
 refine Ops_pass rfl rfl (Ops_pass rfl rfl (Ops_pass rfl rfl (Ops_pass rfl rfl (Ops_step (R_pick_true rfl rfl) rfl rfl ?_))))
 refine Ops_step (R_assign rfl) rfl rfl ?_
 refine Ops_nil ?_
 refine then_n (k2 _ _ ?_)
 clear k2 K2
 refine W_keepB [2] fun B_ b_ => ?_
 simp only [e_, Nat.reduceAdd, Nat.reduceBEq] at b_
 subst b_
 refine W_ret ?_
 refine ⟨_, ⟨_, _, rfl, rfl, rfl⟩, ?_⟩
 exact ⟨true, _, _, rfl, hI, h⟩

theorem journal_Journal_Len_v1_ok {G : Gh} {w : World} (hS : St G w) (hg : GL G)  {Q : Int → Prop} (h : journal_Journal_Len_v1  Q) : Calls Try.prog 19 #[.pointer none] w fun e w2 => ∃ (r0 : Int) (L H : Gh), e = .returned (vi r0) ∧ Inv [] G w L H w2 ∧ Q r0 := by
 unfold journal_Journal_Len_v1 at h
 have hI := Inv.start (M := []) hS
 refine calls_W 11 Try.func19 rfl Try.ntmps19 rfl [.tmp 2] rfl ?_
 refine W_seq_k fun K1 k1 => ?_
 refine W_region [2] rfl (Ops_step (R_assign rfl) rfl rfl ?_)
 refine Ops_nil ?_
 refine then_n (k1 _ _ ?_)
 clear k1 K1
 refine W_seq_k fun K2 k2 => ?_
 refine W_seq_k fun K3 k3 => ?_
 refine W_region [3, 4] rfl (Ops_step (R_move rfl) rfl rfl ?_)
 refine Ops_call (C_func bd39 rfl) rfl rfl ?_
 refine (journal_Journal_dead_v1_ok  hI.st (hg.up hI.le)  h).mono ?_
 rintro _ w4_ ⟨r4_0, L4_, H4_, rfl, hI4_, h⟩
 refine Exists.elim (hI.call hI4_ (by simp)) fun L40_ h4_ => ?_
 have hz4_ := hI.size
 replace hI := h4_.1
 have u4_ := h4_.2.1
 have hl4_ := h4_.2.2
 clear h4_
 clear hI4_ u4_ hl4_
 refine ⟨_, rfl, ?_⟩
 refine Ops_nil ?_
 refine then_n (k3 _ _ ?_)
 clear k3 K3
 refine W_cond rfl (fun hc5_ => ?_) (fun hc5_ => ?_)
 ·
  replace h := h.1 hc5_
  refine W_seq_k fun K6 k6 => ?_
  refine W_region [2] rfl (Ops_step (R_assign rfl) rfl rfl ?_)
  refine Ops_nil ?_
  refine then_n (k6 _ _ ?_)
  clear k6 K6
  refine W_ret ?_
  refine then_ret ?_
  clear k2 K2
  refine ⟨_, ⟨_, _, rfl, rfl, rfl⟩, ?_⟩
  exact ⟨0, _, _, rfl, hI, h⟩
 ·
  replace h := h.2 hc5_
  refine W_skip ?_
  refine then_n (k2 _ _ ?_)
  clear k2 K2
  refine W_seq_k fun K7 k7 => ?_
  refine W_region [5, 6, 7, 8, 9, 10, 2] rfl (Ops_step (R_move rfl) rfl rfl ?_)
  exact h.elim

theorem journal_Journal_At_v1_ok {G : Gh} {w : World} (hS : St G w) (hg : GL G) {x1 : Int} {Q : Int → (List UInt8) → Bool → Prop} (h : journal_Journal_At_v1 x1 Q) : Calls Try.prog 18 #[.pointer none, vi x1] w fun e w2 => ∃ (r0 : Int) (A1 : Option Addr) (c1 : Nat) (r1 : List UInt8) (r2 : Bool) (L H : Gh), e = .returned (.tuple #[vi r0, .slice A1 r1.length c1, .bool r2]) ∧ Inv [] G w L H w2 ∧ r1.length ≤ c1 ∧ Sl L A1 r1 ∧ Q r0 r1 r2 := by
 unfold journal_Journal_At_v1 at h
 have hI := Inv.start (M := []) hS
 refine calls_W 42 Try.func18 rfl Try.ntmps18 rfl [.tmp 4, .tmp 5, .tmp 6] rfl ?_
 refine W_seq_k fun K1 k1 => ?_
 refine W_region [4, 5, 6] rfl (Ops_step (R_assign rfl) rfl rfl (Ops_step (R_assign rfl) rfl rfl (Ops_step (R_assign rfl) rfl rfl ?_)))
 refine Ops_nil ?_
 refine then_n (k1 _ _ ?_)
 clear k1 K1
 refine W_seq_k fun K2 k2 => ?_
 refine ex_ h fun J3_ hr3_ h => ?_
 refine W_seq_join [0, 1] [22] (fun vals_ w2 => ∃ (x22_3 : Bool) (L H : Gh), vals_ = [.bool x22_3] ∧ J3_ x22_3 ∧ Inv [] G w L H w2 ∧ Le Gh.no L ∧ Le G H ∧ True) (fun B_ b_ => ?_) (fun B_ b_ => ?_)
 ·
  simp only [e_, Nat.reduceAdd, Nat.reduceBEq] at b_
  subst b_
  clear hr3_
  have hll3_ := Le.refl Gh.no
  have hhh3_ := Le.refl G
  refine W_region [7, 8, 9, 10, 11, 12, 13, 14, 15, 16, 17, 18, 19, 20, 21, 22] rfl (Ops_step (R_move rfl) rfl rfl ?_)
  refine Ops_call (C_func bd39 rfl) rfl rfl ?_
  refine (journal_Journal_dead_v1_ok  hI.st (hg.up hI.le)  h).mono ?_
  rintro _ w4_ ⟨r4_0, L4_, H4_, rfl, hI4_, h⟩
  refine Exists.elim (hI.call hI4_ (by simp)) fun L40_ h4_ => ?_
  have hz4_ := hI.size
  replace hI := h4_.1
  have u4_ := h4_.2.1
  have hl4_ := h4_.2.2
  clear h4_
  replace hll3_ := hll3_.trans u4_.ll
  replace hhh3_ := hhh3_.trans u4_.hh
  clear hI4_ u4_ hl4_
  refine ⟨_, rfl, ?_⟩
  refine Ops_step (R_move rfl) rfl rfl ?_
  refine Ops_splitB 9 rfl (fun hg5_ => ?_) (fun hg5_ => ?_)
  ·
   replace h := h.1 hg5_
   refine Ops_pass rfl rfl (Ops_pass rfl rfl (Ops_step (R_pick_true rfl rfl) rfl rfl (Ops_step (R_move rfl) rfl rfl (Ops_pass rfl rfl ?_))))
   refine Ops_pass rfl rfl (Ops_pass rfl rfl (Ops_pass rfl rfl (Ops_pass rfl rfl (Ops_pass rfl rfl ?_))))
   refine Ops_pass rfl rfl (Ops_pass rfl rfl (Ops_step (R_pick_true rfl rfl) rfl rfl ?_))
   refine Ops_nil ?_
   refine then_n ?_
   exact ⟨_, rfl, ⟨true, _, _, rfl, h, hI, hll3_, hhh3_, trivial⟩, ⟨rfl, rfl, trivial⟩⟩
  ·
   replace h := h.2 hg5_
   refine Ops_step (R_move rfl) rfl rfl (Ops_step (R_lss rfl rfl) rfl rfl (Ops_step (R_pick_false rfl rfl) rfl rfl (Ops_step (R_move rfl) rfl rfl ?_)))
   refine Ops_split 13 rfl (fun hg6_ => ?_) (fun hg6_ => ?_)
   ·
    replace h := h.1 hg6_
    refine Ops_pass rfl rfl (Ops_pass rfl rfl (Ops_pass rfl rfl (Ops_pass rfl rfl (Ops_pass rfl rfl ?_))))
    refine Ops_pass rfl rfl (Ops_pass rfl rfl (Ops_pass rfl rfl (Ops_step (R_pick_true rfl rfl) rfl rfl ?_)))
    refine Ops_nil ?_
    refine then_n ?_
    exact ⟨_, rfl, ⟨true, _, _, rfl, h, hI, hll3_, hhh3_, trivial⟩, ⟨rfl, rfl, trivial⟩⟩
   ·
    replace h := h.2 hg6_
    refine Ops_step (R_move rfl) rfl rfl (Ops_step (R_move rfl) rfl rfl ?_)
    exact h.elim
 ·
  simp only [e_, Nat.reduceAdd, Nat.reduceBEq] at b_
  subst b_
  clear h
  rintro _ w3_ ⟨x22_3, L3_, H3_, rfl, hJ3_, hI3_, hll3_, hhh3_, -⟩
  replace hI := hI3_
  clear hI3_
  have h := hr3_ x22_3 hJ3_
  clear hr3_ hJ3_
  refine W_cond rfl (fun hc7_ => ?_) (fun hc7_ => ?_)
  ·
   replace h := h.1 hc7_
   refine W_seq_k fun K8 k8 => ?_
   refine W_region [4, 5, 6] rfl (Ops_step (R_assign rfl) rfl rfl (Ops_step (R_assign rfl) rfl rfl (Ops_step (R_assign rfl) rfl rfl ?_)))
   refine Ops_nil ?_
   refine then_n (k8 _ _ ?_)
   clear k8 K8
   refine W_ret ?_
   refine then_ret ?_
   clear k2 K2
   refine ⟨_, ⟨_, _, rfl, rfl, ⟨_, _, rfl, rfl, ⟨_, _, rfl, rfl, rfl⟩⟩⟩, ?_⟩
   exact ⟨0, none, 0, [], false, _, _, rfl, hI, (Nat.le_refl 0), Sl.nil, h⟩
  ·
   replace h := h.2 hc7_
   refine W_skip ?_
   refine then_n (k2 _ _ ?_)
   clear k2 K2
   refine W_seq_k fun K9 k9 => ?_
   refine W_drawF [23, 24, 25, 26, 27, 28, 29, 30, 31, 32, 33, 34, 35, 36, 37, 38, 39, 40, 41, 4, 5, 6] [(0, true), (1, true), (2, true), (3, true), (4, true), (5, true), (6, true), (7, true), (8, true), (9, true), (10, true), (11, true), (12, true), (13, true), (14, true), (15, true), (16, true), (17, true), (18, false), (19, true), (20, true), (21, true)] TJtF.hm rfl (by kernel_rfl) fun ops10_ w10_ hops10_ hF10_ => ?_
   replace hI := hI.fr0 hF10_
   clear hF10_
   refine HSp (R_move rfl) rfl rfl ?_
   exact h.elim

theorem journal_Journal_Put_v1_ok {G : Gh} {w : World} (hS : St G w) (hg : GL G) {x1 : Int} {A2 : Option Addr} {c2 : Nat} {x2 : List UInt8} (hc2 : x2.length ≤ c2) (hs2 : Sl G A2 x2) {Q : Int → Prop} (h : journal_Journal_Put_v1 x1 x2 Q) : Calls Try.prog 15 #[.pointer none, vi x1, .slice A2 x2.length c2] w fun e w2 => ∃ (r0 : Int) (L H : Gh), e = .returned (vi r0) ∧ Inv [] G w L H w2 ∧ Q r0 := by
 unfold journal_Journal_Put_v1 at h
 have hI := Inv.start (M := []) hS
 refine calls_W 48 Try.func15 rfl Try.ntmps15 rfl [.tmp 6] rfl ?_
 refine W_seq_k fun K1 k1 => ?_
 refine W_region [6] rfl (Ops_step (R_assign rfl) rfl rfl ?_)
 refine Ops_nil ?_
 refine then_n (k1 _ _ ?_)
 clear k1 K1
 refine W_seq_k fun K2 k2 => ?_
 refine W_block ?_
 refine W_seq_k fun K3 k3 => ?_
 refine W_region [10, 11, 9] rfl (Ops_step (R_move rfl) rfl rfl ?_)
 refine Ops_call (C_func bd39 rfl) rfl rfl ?_
 refine (journal_Journal_dead_v1_ok  hI.st (hg.up hI.le)  h).mono ?_
 rintro _ w4_ ⟨r4_0, L4_, H4_, rfl, hI4_, h⟩
 refine Exists.elim (hI.call hI4_ (by simp)) fun L40_ h4_ => ?_
 have hz4_ := hI.size
 replace hI := h4_.1
 have u4_ := h4_.2.1
 have hl4_ := h4_.2.2
 clear h4_
 replace hs2 := hs2.up u4_.hh
 clear hI4_ u4_ hl4_
 refine ⟨_, rfl, ?_⟩
 refine Ops_step (R_assign rfl) rfl rfl ?_
 refine Ops_nil ?_
 refine then_n (k3 _ _ ?_)
 clear k3 K3
 refine W_cond rfl (fun hc5_ => ?_) (fun hc5_ => ?_)
 ·
  replace h := h.1 hc5_
  refine W_seq_k fun K6 k6 => ?_
  refine W_region [6] rfl (Ops_step (R_assign rfl) rfl rfl ?_)
  refine Ops_nil ?_
  refine then_n (k6 _ _ ?_)
  clear k6 K6
  refine W_keepB [6] fun B_ b_ => ?_
  simp only [e_, Nat.reduceAdd, Nat.reduceBEq] at b_
  subst b_
  refine W_ret ?_
  refine block_ret ?_
  refine then_ret ?_
  clear k2 K2
  refine ⟨_, ⟨_, _, rfl, rfl, rfl⟩, ?_⟩
  exact ⟨6, _, _, rfl, hI, h⟩
 ·
  replace h := h.2 hc5_
  refine ex_ h fun J8_ hr8_ h => ?_
  refine W_seq_join [0, 1, 2] [12] (fun vals_ w2 => ∃ (x12_8 : Bool) (L H : Gh), vals_ = [.bool x12_8] ∧ J8_ x12_8 ∧ Inv [] G w L H w2 ∧ Le L40_ L ∧ Le H4_ H ∧ True) (fun B_ b_ => ?_) (fun B_ b_ => ?_)
  ·
   simp only [e_, Nat.reduceAdd, Nat.reduceBEq] at b_
   subst b_
   clear hr8_
   have hll8_ := Le.refl L40_
   have hhh8_ := Le.refl H4_
   refine W_region [13, 14, 15, 16, 17, 18, 12] rfl (Ops_step (R_move rfl) rfl rfl (Ops_step (R_lss rfl rfl) rfl rfl (Ops_step (R_move rfl) rfl rfl ?_)))
   refine Ops_split 15 rfl (fun hg9_ => ?_) (fun hg9_ => ?_)
   ·
    replace h := h.1 hg9_
    refine Ops_pass rfl rfl (Ops_pass rfl rfl (Ops_step (R_pick_true rfl rfl) rfl rfl (Ops_step (R_assign rfl) rfl rfl ?_)))
    refine Ops_nil ?_
    refine then_n ?_
    exact ⟨_, rfl, ⟨true, _, _, rfl, h, hI, hll8_, hhh8_, trivial⟩, ⟨rfl, rfl, rfl, trivial⟩⟩
   ·
    replace h := h.2 hg9_
    refine Ops_step (R_move rfl) rfl rfl (Ops_step (R_geq rfl rfl) rfl rfl (Ops_step (R_pick_false rfl rfl) rfl rfl (Ops_step (R_assign rfl) rfl rfl ?_)))
    refine Ops_nil ?_
    refine then_n ?_
    exact ⟨_, rfl, ⟨(decide (x1 ≥ 32)), _, _, rfl, h, hI, hll8_, hhh8_, trivial⟩, ⟨rfl, rfl, rfl, trivial⟩⟩
  ·
   simp only [e_, Nat.reduceAdd, Nat.reduceBEq] at b_
   subst b_
   clear h
   rintro _ w8_ ⟨x12_8, L8_, H8_, rfl, hJ8_, hI8_, hll8_, hhh8_, -⟩
   replace hI := hI8_
   clear hI8_
   have h := hr8_ x12_8 hJ8_
   clear hr8_ hJ8_
   replace hs2 := hs2.up hhh8_
   refine W_cond rfl (fun hc10_ => ?_) (fun hc10_ => ?_)
   ·
    replace h := h.1 hc10_
    refine W_seq_k fun K11 k11 => ?_
    refine W_region [6] rfl (Ops_step (R_assign rfl) rfl rfl ?_)
    refine Ops_nil ?_
    refine then_n (k11 _ _ ?_)
    clear k11 K11
    refine W_ret ?_
    refine block_ret ?_
    refine then_ret ?_
    clear k2 K2
    refine ⟨_, ⟨_, _, rfl, rfl, rfl⟩, ?_⟩
    exact ⟨10, _, _, rfl, hI, h⟩
   ·
    replace h := h.2 hc10_
    refine W_seq_k fun K12 k12 => ?_
    refine W_region [20, 21, 22, 19] rfl (Ops_step (R_move rfl) rfl rfl (Ops_step (R_len Try.underlying29 rfl rfl) rfl rfl (Ops_step (R_gtr rfl rfl) rfl rfl (Ops_step (R_assign rfl) rfl rfl ?_))))
    refine Ops_nil ?_
    refine then_n (k12 _ _ ?_)
    clear k12 K12
    refine W_if rfl (fun hc13_ => ?_) (fun hc13_ => ?_)
    ·
     replace h := h.1 hc13_
     refine W_seq_k fun K14 k14 => ?_
     refine W_region [6] rfl (Ops_step (R_assign rfl) rfl rfl ?_)
     refine Ops_nil ?_
     refine then_n (k14 _ _ ?_)
     clear k14 K14
     refine W_keepB [6] fun B_ b_ => ?_
     simp only [e_, Nat.reduceAdd, Nat.reduceBEq] at b_
     subst b_
     refine W_ret ?_
     refine block_ret ?_
     refine then_ret ?_
     clear k2 K2
     refine ⟨_, ⟨_, _, rfl, rfl, rfl⟩, ?_⟩
     exact ⟨4, _, _, rfl, hI, h⟩
    ·
     replace h := h.2 hc13_
     refine W_skip ?_
     refine block_n ?_
     refine then_n (k2 _ _ ?_)
     clear k2 K2
     refine W_seq_k fun K16 k16 => ?_
     refine W_region [23, 24, 25, 26, 7, none] rfl (Ops_step (R_move rfl) rfl rfl (Ops_step (R_move rfl) rfl rfl ?_))
     refine Ops_call (C_func bd32 rfl) rfl rfl ?_
     refine (slices_Clone_sl_byte_byte_ok (x0 := x2) hI.st (hg.up hI.le) hc2 hs2 h).mono ?_
     rintro _ w17_ ⟨A17_0, c17_0, r17_0, L17_, H17_, rfl, hI17_, ho17_0, h⟩
     refine Exists.elim (hI.call hI17_ (by simp)) fun L170_ h17_ => ?_
     have hz17_ := hI.size
     replace hI := h17_.1
     have u17_ := h17_.2.1
     have hl17_ := h17_.2.2
     clear h17_
     replace ho17_0 := OwnS.backS ho17_0 hz17_ (Le.refl _)
     clear hI17_ u17_ hl17_
     refine ⟨_, rfl, ?_⟩
     refine Exists.elim (ho17_0.freeze hI) fun L18_ h18_ => Exists.elim h18_ fun H18_ h18_ => ?_
     replace hI := h18_.1
     have u18_ := h18_.2.1
     have hs18_ := h18_.2.2.1 (Le.no _)
     have hc18_ := ho17_0.cap
     clear h18_ u18_ ho17_0
     refine Ops_step (R_build (pl := [(0, 1), (1, 1)]) (cs := [vi x1, .slice A17_0 r17_0.length c17_0]) zr85 pl85 rfl rfl rfl) rfl rfl ?_
     have hI0_ := hI
     refine Ops_to (R_alloc zr85) rfl rfl ?_
     rintro _ w19_ ⟨b19_, rfl, hb19_, hB19_, hF19_⟩
     replace hI := hI.fr0 hF19_
     have ht19_ : Tok H18_ _ b19_ 85 ([vi 0, .slice none 0 0]) := ⟨hB19_.to rfl, Out.ge hI0_.st (Nat.le_of_eq hb19_.symm)⟩
     have hge_b19_ : w.heap.size ≤ b19_ := hb19_ ▸ hI0_.size
     clear hB19_ hb19_ hI0_ hF19_
     refine Ops_to0 (R_storeN sz85 rfl rfl rfl ht19_.blk (Nat.le_of_ble_eq_true rfl) rfl) rfl ?_
     rintro _ w20_ ⟨hB20_, hF20_⟩
     replace hI := hI.tok hF20_ (out1 ht19_.out) (new1 hge_b19_)
     replace ht19_ : Tok H18_ _ b19_ 85 ([vi x1, .slice A17_0 r17_0.length c17_0]) := ⟨hB20_, ht19_.out⟩
     clear hF20_ hB20_
     refine Ops_nil ?_
     refine then_n (k16 _ _ ?_)
     clear k16 K16
     refine W_keepB [0, 7] fun B_ b_ => ?_
     simp only [e_, Nat.reduceAdd, Nat.reduceBEq] at b_
     subst b_
     refine W_seq_k fun K22 k22 => ?_
     refine W_seq_k fun K23 k23 => ?_
     refine W_drawF [27, 28, 29, 30, 31, 32, 33, 34, 35, 36, 37, 38, 39, 8] [(0, true), (1, true), (2, true), (3, true), (4, true), (5, true), (6, true), (7, true), (8, true), (9, true), (10, true), (11, false), (12, false), (13, true)] TJtF.hm rfl (by kernel_rfl) fun ops24_ w24_ hops24_ hF24_ => ?_
     replace hI := hI.fr0 hF24_
     replace ht19_ := ht19_.fr0 hF24_
     clear hF24_
     refine HSp (R_move rfl) rfl rfl ?_
     exact h.elim

end Go.Proofs.Ytkmljjhjojolcaa

