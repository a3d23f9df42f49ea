/- What is shown of the program on the way to the law. -/
import Derived.Test.YtkmljjhjojolcaaZn3
import Derived.Test.YtkmljjhjojolcaaZn4
import Derived.Test.YtkmljjhjojolcaaZn5
import Derived.Test.YtkmljjhjojolcaaZn7
import Derived.Test.YtkmljjhjojolcaaZn8
import Derived.Test.YtkmljjhjojolcaaZn10
import Derived.Test.YtkmljjhjojolcaaZn15
import Derived.Test.YtkmljjhjojolcaaProg
set_option linter.unusedVariables false
set_option linter.unusedSimpArgs false
set_option maxHeartbeats 4000000
namespace Go.Proofs.Ytkmljjhjojolcaa
open Go Go.Sx Go.Lx
namespace TJtK
theorem hm : Try.prog.follows .mixedOrders = true := by kernel_rfl
theorem ag25 : aggB Try.prog 25 = some false := by kernel_rfl
theorem ag26 : aggB Try.prog 26 = some false := by kernel_rfl
theorem ag29 : aggB Try.prog 29 = some false := by kernel_rfl
theorem ag3 : aggB Try.prog 3 = some false := by kernel_rfl
theorem ag41 : aggB Try.prog 41 = some false := by kernel_rfl
theorem ag42 : aggB Try.prog 42 = some false := by kernel_rfl
theorem ag85 : aggB Try.prog 85 = some true := by kernel_rfl
theorem bd26 : bodied Try.prog 26 = true := by kernel_rfl
theorem bd32 : bodied Try.prog 32 = true := by kernel_rfl
theorem bd39 : bodied Try.prog 39 = true := by kernel_rfl
theorem bd40 : bodied Try.prog 40 = true := by kernel_rfl
theorem bd41 : bodied Try.prog 41 = true := by kernel_rfl
theorem bd42 : bodied Try.prog 42 = true := by kernel_rfl
theorem bd43 : bodied Try.prog 43 = true := by kernel_rfl
theorem bd47 : bodied Try.prog 47 = true := by kernel_rfl
theorem bd48 : bodied Try.prog 48 = true := by kernel_rfl
theorem bd50 : bodied Try.prog 50 = true := by kernel_rfl
theorem bd66 : bodied Try.prog 66 = true := by kernel_rfl
theorem bd67 : bodied Try.prog 67 = true := by kernel_rfl
theorem bd68 : bodied Try.prog 68 = true := by kernel_rfl
theorem bd69 : bodied Try.prog 69 = true := by kernel_rfl
theorem bd70 : bodied Try.prog 70 = true := by kernel_rfl
theorem el29 : Elem Try.prog 29 5 1 1 := Elem.of (by kernel_rfl)
theorem el41 : Elem Try.prog 41 85 2 32 := Elem.of (by kernel_rfl)
theorem fo44_0 : offB Try.prog 44 0 = some 0 := by kernel_rfl
theorem fo44_1 : offB Try.prog 44 1 = some 1 := by kernel_rfl
theorem fo46_0 : offB Try.prog 46 0 = some 0 := by kernel_rfl
theorem fo46_1 : offB Try.prog 46 1 = some 2 := by kernel_rfl
theorem fo46_2 : offB Try.prog 46 2 = some 3 := by kernel_rfl
theorem fo46_3 : offB Try.prog 46 3 = some 4 := by kernel_rfl
theorem fo85_0 : offB Try.prog 85 0 = some 0 := by kernel_rfl
theorem fo85_1 : offB Try.prog 85 1 = some 1 := by kernel_rfl
theorem pl85 : partPl Try.prog 85 = some [(0, 1), (1, 1)] := by kernel_rfl
theorem sz29 : sz Try.prog 29 = some 1 := by kernel_rfl
theorem sz3 : sz Try.prog 3 = some 1 := by kernel_rfl
theorem sz41 : sz Try.prog 41 = some 1 := by kernel_rfl
theorem sz85 : sz Try.prog 85 = some 2 := by kernel_rfl
theorem zr85 : zr Try.prog 85 = some ([.int .i64 0] ++ [.slice none 0 0]) := by kernel_rfl
theorem zv3 : zv Try.prog 3 = some (vi 0) := by kernel_rfl
end TJtK
open TJtK
theorem journal_Journal_Put_v2_ok {G : Gh} {w : World} (hS : St G w) (hg : GL G) {d0 : Nat} {z0 : journal_Journal} {Ad0_1 : Option Addr} {cd0_1 : Nat} (htd0 : Tok G w d0 46 ([.slice Ad0_1 z0.book_.l_.length cd0_1, .map none, .pointer none, vi z0.gen_, vi z0.place_])) (hcd0_1 : z0.book_.l_.length ≤ cd0_1) (hsd0_1 : Sl G Ad0_1 z0.book_.l_) {x1 : Int} {A2 : Option Addr} {c2 : Nat} {x2 : List UInt8} (hc2 : x2.length ≤ c2) (hs2 : Sl G A2 x2) {Q : Int → Prop} (h : journal_Journal_Put_v2 z0 x1 x2 Q) : Calls Try.prog 15 #[.pointer (some ⟨d0, 0, none⟩), vi x1, .slice A2 x2.length c2] w fun e w2 => ∃ (r0 : Int) (L H : Gh), e = .returned (vi r0) ∧ Inv [] G w L H w2 ∧ Q r0 := by
 unfold journal_Journal_Put_v2 at h
 have hI := Inv.start (M := []) hS
 refine calls_W 48 Try.func15 rfl Try.ntmps15 rfl [.tmp 6] rfl ?_
 have hlt_d0 := htd0.blk.lt
 refine W_seq_k fun K1 k1 => ?_
 refine W_region [6] rfl (Ops_step (R_assign rfl) rfl rfl ?_)
 refine Ops_nil ?_
 refine then_n (k1 _ _ ?_)
 clear k1 K1
 refine W_seq_k fun K2 k2 => ?_
 refine W_block ?_
 refine W_seq_k fun K3 k3 => ?_
 refine W_region [10, 11, 9] rfl (Ops_step (R_move rfl) rfl rfl ?_)
 refine Ops_call (C_func bd39 rfl) rfl rfl ?_
 refine (journal_Journal_dead_v2_ok (z0 := z0) hI.st (hg.up hI.le) htd0 hcd0_1 hsd0_1 h).mono ?_
 rintro _ w4_ ⟨r4_0, L4_, H4_, rfl, hI4_, h⟩
 refine Exists.elim (hI.call hI4_ (by simp)) fun L40_ h4_ => ?_
 have hz4_ := hI.size
 replace hI := h4_.1
 have u4_ := h4_.2.1
 have hl4_ := h4_.2.2
 clear h4_
 replace hsd0_1 := hsd0_1.up u4_.hh
 replace htd0 := htd0.up u4_ (by simp)
 replace hs2 := hs2.up u4_.hh
 clear hI4_ u4_ hl4_
 refine ⟨_, rfl, ?_⟩
 refine Ops_step (R_assign rfl) rfl rfl ?_
 refine Ops_nil ?_
 refine then_n (k3 _ _ ?_)
 clear k3 K3
 refine W_cond rfl (fun hc5_ => ?_) (fun hc5_ => ?_)
 ·
  replace h := h.1 hc5_
  refine W_seq_k fun K6 k6 => ?_
  refine W_region [6] rfl (Ops_step (R_assign rfl) rfl rfl ?_)
  refine Ops_nil ?_
  refine then_n (k6 _ _ ?_)
  clear k6 K6
  refine W_keepB [6] fun B_ b_ => ?_
  simp only [e_, Nat.reduceAdd, Nat.reduceBEq] at b_
  subst b_
  refine W_ret ?_
  refine block_ret ?_
  refine then_ret ?_
  clear k2 K2
  refine ⟨_, ⟨_, _, rfl, rfl, rfl⟩, ?_⟩
  exact ⟨6, _, _, rfl, hI, h⟩
 ·
  replace h := h.2 hc5_
  refine ex_ h fun J8_ hr8_ h => ?_
  refine W_seq_join [0, 1, 2] [12] (fun vals_ w2 => ∃ (x12_8 : Bool) (L H : Gh), vals_ = [.bool x12_8] ∧ J8_ x12_8 ∧ Inv [] G w L H w2 ∧ Le L40_ L ∧ Le H4_ H ∧ Tok H w2 d0 46 ([.slice Ad0_1 z0.book_.l_.length cd0_1, .map none, .pointer none, vi z0.gen_, vi z0.place_]) ∧ True) (fun B_ b_ => ?_) (fun B_ b_ => ?_)
  ·
   simp only [e_, Nat.reduceAdd, Nat.reduceBEq] at b_
   subst b_
   clear hr8_
   have hll8_ := Le.refl L40_
   have hhh8_ := Le.refl H4_
   refine W_region [13, 14, 15, 16, 17, 18, 12] rfl (Ops_step (R_move rfl) rfl rfl (Ops_step (R_lss rfl rfl) rfl rfl (Ops_step (R_move rfl) rfl rfl ?_)))
   refine Ops_split 15 rfl (fun hg9_ => ?_) (fun hg9_ => ?_)
   ·
    replace h := h.1 hg9_
    refine Ops_pass rfl rfl (Ops_pass rfl rfl (Ops_step (R_pick_true rfl rfl) rfl rfl (Ops_step (R_assign rfl) rfl rfl ?_)))
    refine Ops_nil ?_
    refine then_n ?_
    exact ⟨_, rfl, ⟨true, _, _, rfl, h, hI, hll8_, hhh8_, htd0, trivial⟩, ⟨rfl, rfl, rfl, trivial⟩⟩
   ·
    replace h := h.2 hg9_
    refine Ops_step (R_move rfl) rfl rfl (Ops_step (R_geq rfl rfl) rfl rfl (Ops_step (R_pick_false rfl rfl) rfl rfl (Ops_step (R_assign rfl) rfl rfl ?_)))
    refine Ops_nil ?_
    refine then_n ?_
    exact ⟨_, rfl, ⟨(decide (x1 ≥ 32)), _, _, rfl, h, hI, hll8_, hhh8_, htd0, trivial⟩, ⟨rfl, rfl, rfl, trivial⟩⟩
  ·
   simp only [e_, Nat.reduceAdd, Nat.reduceBEq] at b_
   subst b_
   clear h
   clear htd0
   rintro _ w8_ ⟨x12_8, L8_, H8_, rfl, hJ8_, hI8_, hll8_, hhh8_, htd0, -⟩
   replace hI := hI8_
   clear hI8_
   have h := hr8_ x12_8 hJ8_
   clear hr8_ hJ8_
   replace hsd0_1 := hsd0_1.up hhh8_
   replace hs2 := hs2.up hhh8_
   refine W_cond rfl (fun hc10_ => ?_) (fun hc10_ => ?_)
   ·
    replace h := h.1 hc10_
    refine W_seq_k fun K11 k11 => ?_
    refine W_region [6] rfl (Ops_step (R_assign rfl) rfl rfl ?_)
    refine Ops_nil ?_
    refine then_n (k11 _ _ ?_)
    clear k11 K11
    refine W_ret ?_
    refine block_ret ?_
    refine then_ret ?_
    clear k2 K2
    refine ⟨_, ⟨_, _, rfl, rfl, rfl⟩, ?_⟩
    exact ⟨10, _, _, rfl, hI, h⟩
   ·
    replace h := h.2 hc10_
    refine W_seq_k fun K12 k12 => ?_
    refine W_region [20, 21, 22, 19] rfl (Ops_step (R_move rfl) rfl rfl (Ops_step (R_len Try.underlying29 rfl rfl) rfl rfl (Ops_step (R_gtr rfl rfl) rfl rfl (Ops_step (R_assign rfl) rfl rfl ?_))))
    refine Ops_nil ?_
    refine then_n (k12 _ _ ?_)
    clear k12 K12
    refine W_if rfl (fun hc13_ => ?_) (fun hc13_ => ?_)
    ·
     replace h := h.1 hc13_
     refine W_seq_k fun K14 k14 => ?_
     refine W_region [6] rfl (Ops_step (R_assign rfl) rfl rfl ?_)
     refine Ops_nil ?_
     refine then_n (k14 _ _ ?_)
     clear k14 K14
     refine W_keepB [6] fun B_ b_ => ?_
     simp only [e_, Nat.reduceAdd, Nat.reduceBEq] at b_
     subst b_
     refine W_ret ?_
     refine block_ret ?_
     refine then_ret ?_
     clear k2 K2
     refine ⟨_, ⟨_, _, rfl, rfl, rfl⟩, ?_⟩
     exact ⟨4, _, _, rfl, hI, h⟩
    ·
     replace h := h.2 hc13_
     refine W_skip ?_
     refine block_n ?_
     refine then_n (k2 _ _ ?_)
     clear k2 K2
     refine W_seq_k fun K16 k16 => ?_
     refine W_region [23, 24, 25, 26, 7, none] rfl (Ops_step (R_move rfl) rfl rfl (Ops_step (R_move rfl) rfl rfl ?_))
     refine Ops_call (C_func bd32 rfl) rfl rfl ?_
     refine (slices_Clone_sl_byte_byte_ok (x0 := x2) hI.st (hg.up hI.le) hc2 hs2 h).mono ?_
     rintro _ w17_ ⟨A17_0, c17_0, r17_0, L17_, H17_, rfl, hI17_, ho17_0, h⟩
     refine Exists.elim (hI.call hI17_ (by simp)) fun L170_ h17_ => ?_
     have hz17_ := hI.size
     replace hI := h17_.1
     have u17_ := h17_.2.1
     have hl17_ := h17_.2.2
     clear h17_
     replace hsd0_1 := hsd0_1.up u17_.hh
     replace htd0 := htd0.up u17_ (by simp)
     replace ho17_0 := OwnS.backS ho17_0 hz17_ (Le.refl _)
     clear hI17_ u17_ hl17_
     refine ⟨_, rfl, ?_⟩
     refine Exists.elim (ho17_0.freeze hI) fun L18_ h18_ => Exists.elim h18_ fun H18_ h18_ => ?_
     replace hI := h18_.1
     have u18_ := h18_.2.1
     have hs18_ := h18_.2.2.1 (Le.no _)
     have hc18_ := ho17_0.cap
     replace hsd0_1 := hsd0_1.up u18_.hh
     replace htd0 := htd0.up u18_ (ho17_0.old hlt_d0)
     clear h18_ u18_ ho17_0
     refine Ops_step (R_build (pl := [(0, 1), (1, 1)]) (cs := [vi x1, .slice A17_0 r17_0.length c17_0]) zr85 pl85 rfl rfl rfl) rfl rfl ?_
     have hI0_ := hI
     refine Ops_to (R_alloc zr85) rfl rfl ?_
     rintro _ w19_ ⟨b19_, rfl, hb19_, hB19_, hF19_⟩
     replace hI := hI.fr0 hF19_
     replace htd0 := htd0.fr0 hF19_
     have ht19_ : Tok H18_ _ b19_ 85 ([vi 0, .slice none 0 0]) := ⟨hB19_.to rfl, Out.ge hI0_.st (Nat.le_of_eq hb19_.symm)⟩
     have hge_b19_ : w.heap.size ≤ b19_ := hb19_ ▸ hI0_.size
     clear hB19_ hb19_ hI0_ hF19_
     refine Ops_to0 (R_storeN sz85 rfl rfl rfl ht19_.blk (Nat.le_of_ble_eq_true rfl) rfl) rfl ?_
     rintro _ w20_ ⟨hB20_, hF20_⟩
     replace hI := hI.tok hF20_ (out1 ht19_.out) (new1 hge_b19_)
     replace htd0 := htd0.fr hF20_ (htd0.apart ht19_ (by decide))
     replace ht19_ : Tok H18_ _ b19_ 85 ([vi x1, .slice A17_0 r17_0.length c17_0]) := ⟨hB20_, ht19_.out⟩
     clear hF20_ hB20_
     refine Ops_nil ?_
     refine then_n (k16 _ _ ?_)
     clear k16 K16
     refine W_keepB [0, 7] fun B_ b_ => ?_
     simp only [e_, Nat.reduceAdd, Nat.reduceBEq] at b_
     subst b_
     refine W_seq_k fun K22 k22 => ?_
     refine W_seq_k fun K23 k23 => ?_
     refine W_drawF [27, 28, 29, 30, 31, 32, 33, 34, 35, 36, 37, 38, 39, 8] [(0, true), (1, true), (2, true), (3, true), (4, true), (5, true), (6, true), (7, true), (8, true), (9, true), (10, true), (11, false), (12, false), (13, true)] TJtK.hm rfl (by kernel_rfl) fun ops24_ w24_ hops24_ hF24_ => ?_
     replace hI := hI.fr0 hF24_
     replace htd0 := htd0.fr0 hF24_
     replace ht19_ := ht19_.fr0 hF24_
     clear hF24_
     refine HSp (R_move rfl) rfl rfl (HSp (R_nilCheck rfl) rfl rfl (HSp (R_fieldAddr fo46_1 rfl) rfl rfl ?_))
     refine HS_loadB (v := .pointer none) ag25 rfl htd0.blk rfl rfl rfl ?_
     refine HSp (R_move rfl) rfl rfl (HSp (R_nilCheck rfl) rfl rfl (HSp (R_fieldAddr fo46_0 rfl) rfl rfl (HSp (R_fieldAddr fo44_0 rfl) rfl rfl ?_)))
     refine HS_loadB (v := .slice Ad0_1 z0.book_.l_.length cd0_1) ag41 rfl htd0.blk rfl rfl rfl ?_
     refine HSp (R_len Try.underlying41 rfl rfl) rfl rfl ?_
     refine HS_loadN ag85 sz85 rfl ht19_.blk (Nat.le_of_ble_eq_true rfl) rfl rfl ?_
     refine HS_call [3] _ rfl (by rw [hops24_]; kernel_rfl) (C_func bd41 rfl) rfl rfl ?_
     refine (journal_tell_ok (x0 := (z0.book_.l_.length : Int)) (x1 := (journal_record.mk x1 r17_0)) hI.st (hg.up hI.le) ⟨A17_0, c17_0, rfl, ⟨hc18_, (hs18_.up hI.sub)⟩⟩ h).mono ?_
     rintro _ w25_ ⟨A25_0, c25_0, r25_0, L25_, H25_, rfl, hI25_, ho25_0, h⟩
     refine Exists.elim (hI.call hI25_ (by simp)) fun L250_ h25_ => ?_
     have hz25_ := hI.size
     replace hI := h25_.1
     have u25_ := h25_.2.1
     have hl25_ := h25_.2.2
     clear h25_
     replace hsd0_1 := hsd0_1.up u25_.hh
     replace htd0 := htd0.up u25_ (by simp)
     replace hs18_ := hs18_.up u25_.ll
     replace ht19_ := ht19_.up u25_ (by simp)
     replace ho25_0 := OwnS.backS ho25_0 hz25_ (Le.refl _)
     clear hI25_ u25_ hl25_
     refine ⟨_, rfl, ⟨(htd0.blk.at_ rfl), trivial⟩, ?_⟩
     refine Exists.elim (ho25_0.freeze hI) fun L26_ h26_ => Exists.elim h26_ fun H26_ h26_ => ?_
     replace hI := h26_.1
     have u26_ := h26_.2.1
     have hs26_ := h26_.2.2.1 (Le.no _)
     have hc26_ := ho25_0.cap
     replace hsd0_1 := hsd0_1.up u26_.hh
     replace htd0 := htd0.up u26_ (ho25_0.old hlt_d0)
     replace hs18_ := hs18_.up u26_.ll
     replace ht19_ := ht19_.up u26_ (ht19_.sep ho25_0 (by decide))
     clear h26_ u26_ ho25_0
     refine HS_call [] _ rfl (by rw [hops24_]; kernel_rfl) (C_func bd26 rfl) rfl rfl ?_
     refine (disk_Disk_Append_v1_ok (x1 := 0) (x2 := r25_0) hI.st (hg.up hI.le) hc26_ (hs26_.up hI.sub) h).mono ?_
     rintro _ w27_ ⟨r27_0, L27_, H27_, rfl, hI27_, h⟩
     refine Exists.elim (hI.call hI27_ (by simp)) fun L270_ h27_ => ?_
     have hz27_ := hI.size
     replace hI := h27_.1
     have u27_ := h27_.2.1
     have hl27_ := h27_.2.2
     clear h27_
     replace hsd0_1 := hsd0_1.up u27_.hh
     replace htd0 := htd0.up u27_ (by simp)
     replace hs18_ := hs18_.up u27_.ll
     replace ht19_ := ht19_.up u27_ (by simp)
     clear hI27_ u27_ hl27_
     refine ⟨_, rfl, trivial, ?_⟩
     refine HSp (R_assign rfl) rfl rfl ?_
     refine HS_nil ?_
     clear hops24_
     refine then_n (k23 _ _ ?_)
     clear k23 K23
     refine W_keepB [0, 7, 8] fun B_ b_ => ?_
     simp only [e_, Nat.reduceAdd, Nat.reduceBEq] at b_
     subst b_
     refine W_seq_k fun K29 k29 => ?_
     refine W_region [40, 41] rfl (Ops_step (R_move rfl) rfl rfl (Ops_step (R_neq rfl rfl) rfl rfl ?_))
     refine Ops_nil ?_
     refine then_n (k29 _ _ ?_)
     clear k29 K29
     refine W_if rfl (fun hc30_ => ?_) (fun hc30_ => ?_)
     ·
      replace h := h.1 hc30_
      refine W_seq_k fun K31 k31 => ?_
      refine W_region [42, 6] rfl (Ops_step (R_move rfl) rfl rfl (Ops_step (R_assign rfl) rfl rfl ?_))
      refine Ops_nil ?_
      refine then_n (k31 _ _ ?_)
      clear k31 K31
      refine W_keepB [6] fun B_ b_ => ?_
      simp only [e_, Nat.reduceAdd, Nat.reduceBEq] at b_
      subst b_
      refine W_ret ?_
      refine then_ret ?_
      clear k22 K22
      refine ⟨_, ⟨_, _, rfl, rfl, rfl⟩, ?_⟩
      exact ⟨r27_0, _, _, rfl, hI, h⟩
     ·
      replace h := h.2 hc30_
      refine W_skip ?_
      refine then_n (k22 _ _ ?_)
      clear k22 K22
      refine W_seq_k fun K33 k33 => ?_
      refine W_drawF [43, 44, 45, 46, 47] [(0, true), (1, true), (2, true), (3, true), (4, false)] TJtK.hm rfl (by kernel_rfl) fun ops34_ w34_ hops34_ hF34_ => ?_
      replace hI := hI.fr0 hF34_
      replace htd0 := htd0.fr0 hF34_
      replace ht19_ := ht19_.fr0 hF34_
      clear hF34_
      refine HSp (R_move rfl) rfl rfl (HSp (R_nilCheck rfl) rfl rfl (HSp (R_fieldAddr fo46_0 rfl) rfl rfl ?_))
      refine HS_loadN ag85 sz85 rfl ht19_.blk (Nat.le_of_ble_eq_true rfl) rfl rfl ?_
      refine HS_call [] _ rfl (by rw [hops34_]; kernel_rfl) (C_func bd43 rfl) rfl rfl ?_
      refine (journal_book_add_v1_ok (x1 := (journal_record.mk x1 r17_0)) (z0 := z0) hI.st (hg.up hI.le) htd0 hcd0_1 hsd0_1 ⟨A17_0, c17_0, rfl, ⟨hc18_, (hs18_.up hI.sub)⟩⟩ h).mono ?_
      exact fun _ _ h_ => h_.elim

theorem disk_Disk_burn_v1_ok {G : Gh} {w : World} (hS : St G w) (hg : GL G) {x1 : Int}  (h : disk_Disk_burn_v1 x1 ) : Calls Try.prog 50 #[.pointer none, vi x1] w fun e w2 => False := by
 unfold disk_Disk_burn_v1 at h
 have hI := Inv.start (M := []) hS
 refine calls_W 42 Try.func50 rfl Try.ntmps50 rfl [.tmp 4] rfl ?_
 refine W_seq_k fun K1 k1 => ?_
 refine W_region [4] rfl (Ops_step (R_assign rfl) rfl rfl ?_)
 refine Ops_nil ?_
 refine then_n (k1 _ _ ?_)
 clear k1 K1
 refine W_seq_k fun K2 k2 => ?_
 refine W_block ?_
 refine W_seq_k fun K3 k3 => ?_
 refine W_region [6, 7, 8, 9, 10, 5] rfl (Ops_step (R_move rfl) rfl rfl ?_)
 exact h.elim

theorem disk_Disk_Wipe_v1_ok {G : Gh} {w : World} (hS : St G w) (hg : GL G) {x1 : Int} {Q : Int → Prop} (h : disk_Disk_Wipe_v1 x1 Q) : Calls Try.prog 42 #[.pointer none, vi x1] w fun e w2 => ∃ (r0 : Int) (L H : Gh), e = .returned (vi r0) ∧ Inv [] G w L H w2 ∧ Q r0 := by
 unfold disk_Disk_Wipe_v1 at h
 have hI := Inv.start (M := []) hS
 refine calls_W 22 Try.func42 rfl Try.ntmps42 rfl [.tmp 4] rfl ?_
 refine W_seq_k fun K1 k1 => ?_
 refine W_region [4] rfl (Ops_step (R_assign rfl) rfl rfl ?_)
 refine Ops_nil ?_
 refine then_n (k1 _ _ ?_)
 clear k1 K1
 refine W_seq_k fun K2 k2 => ?_
 refine W_seq_k fun K3 k3 => ?_
 refine W_region [6, 7, 8, 5] rfl (Ops_step (R_move rfl) rfl rfl (Ops_step (R_move rfl) rfl rfl ?_))
 refine Ops_call (C_func bd48 rfl) rfl rfl ?_
 refine (disk_Disk_able_v1_ok (x1 := x1) hI.st (hg.up hI.le)  h).mono ?_
 rintro _ w4_ ⟨r4_0, L4_, H4_, rfl, hI4_, h⟩
 refine Exists.elim (hI.call hI4_ (by simp)) fun L40_ h4_ => ?_
 have hz4_ := hI.size
 replace hI := h4_.1
 have u4_ := h4_.2.1
 have hl4_ := h4_.2.2
 clear h4_
 clear hI4_ u4_ hl4_
 refine ⟨_, rfl, ?_⟩
 refine Ops_step (R_assign rfl) rfl rfl ?_
 refine Ops_nil ?_
 refine then_n (k3 _ _ ?_)
 clear k3 K3
 refine W_seq_k fun K5 k5 => ?_
 refine W_region [9, 10] rfl (Ops_step (R_move rfl) rfl rfl (Ops_step (R_neq rfl rfl) rfl rfl ?_))
 refine Ops_nil ?_
 refine then_n (k5 _ _ ?_)
 clear k5 K5
 refine W_if rfl (fun hc6_ => ?_) (fun hc6_ => ?_)
 ·
  replace h := h.1 hc6_
  refine W_seq_k fun K7 k7 => ?_
  refine W_region [11, 4] rfl (Ops_step (R_move rfl) rfl rfl (Ops_step (R_assign rfl) rfl rfl ?_))
  refine Ops_nil ?_
  refine then_n (k7 _ _ ?_)
  clear k7 K7
  refine W_keepB [4] fun B_ b_ => ?_
  simp only [e_, Nat.reduceAdd, Nat.reduceBEq] at b_
  subst b_
  refine W_ret ?_
  refine then_ret ?_
  clear k2 K2
  refine ⟨_, ⟨_, _, rfl, rfl, rfl⟩, ?_⟩
  exact ⟨r4_0, _, _, rfl, hI, h⟩
 ·
  replace h := h.2 hc6_
  refine W_skip ?_
  refine then_n (k2 _ _ ?_)
  clear k2 K2
  refine W_keepB [0, 1] fun B_ b_ => ?_
  simp only [e_, Nat.reduceAdd, Nat.reduceBEq] at b_
  subst b_
  refine W_seq_k fun K10 k10 => ?_
  refine W_seq_k fun K11 k11 => ?_
  refine W_region [12, 13, 14] rfl (Ops_step (R_move rfl) rfl rfl ?_)
  refine Ops_call (C_func bd50 rfl) rfl rfl ?_
  refine (disk_Disk_burn_v1_ok (x1 := 1) hI.st (hg.up hI.le)  h).mono ?_
  exact fun _ _ h_ => h_.elim

theorem journal_Journal_Check_v2_ok {G : Gh} {w : World} (hS : St G w) (hg : GL G) {d0 : Nat} {z0 : journal_Journal} {Ad0_1 : Option Addr} {cd0_1 : Nat} (htd0 : Tok G w d0 46 ([.slice Ad0_1 z0.book_.l_.length cd0_1, .map none, .pointer none, vi z0.gen_, vi z0.place_])) (hcd0_1 : z0.book_.l_.length ≤ cd0_1) (hsd0_1 : Sl G Ad0_1 z0.book_.l_) {Q : Int → journal_Journal → Prop} (h : journal_Journal_Check_v2 z0 Q) : Calls Try.prog 14 #[.pointer (some ⟨d0, 0, none⟩)] w fun e w2 => ∃ (r0 : Int) (y0 : journal_Journal) (Ay0_1 : Option Addr) (cy0_1 : Nat) (L H : Gh), e = .returned (vi r0) ∧ Inv [d0] G w L H w2 ∧ Tok H w2 d0 46 ([.slice Ay0_1 y0.book_.l_.length cy0_1, .map none, .pointer none, vi y0.gen_, vi y0.place_]) ∧ y0.book_.l_.length ≤ cy0_1 ∧ Sl H Ay0_1 y0.book_.l_ ∧ Q r0 y0 := by
 unfold journal_Journal_Check_v2 at h
 have hI := Inv.start (M := [d0]) hS
 refine calls_W 103 Try.func14 rfl Try.ntmps14 rfl [.tmp 2] rfl ?_
 have hlt_d0 := htd0.blk.lt
 refine W_seq_k fun K1 k1 => ?_
 refine W_region [2] rfl (Ops_step (R_assign rfl) rfl rfl ?_)
 refine Ops_nil ?_
 refine then_n (k1 _ _ ?_)
 clear k1 K1
 refine W_seq_k fun K2 k2 => ?_
 refine W_block ?_
 refine W_seq_k fun K3 k3 => ?_
 refine W_region [12, 13, 11] rfl (Ops_step (R_move rfl) rfl rfl ?_)
 refine Ops_call (C_func bd39 rfl) rfl rfl ?_
 refine (journal_Journal_dead_v2_ok (z0 := z0) hI.st (hg.up hI.le) htd0 hcd0_1 hsd0_1 h).mono ?_
 rintro _ w4_ ⟨r4_0, L4_, H4_, rfl, hI4_, h⟩
 refine Exists.elim (hI.call hI4_ (by simp)) fun L40_ h4_ => ?_
 have hz4_ := hI.size
 replace hI := h4_.1
 have u4_ := h4_.2.1
 have hl4_ := h4_.2.2
 clear h4_
 replace hsd0_1 := hsd0_1.up u4_.hh
 replace htd0 := htd0.up u4_ (by simp)
 clear hI4_ u4_ hl4_
 refine ⟨_, rfl, ?_⟩
 refine Ops_step (R_assign rfl) rfl rfl ?_
 refine Ops_nil ?_
 refine then_n (k3 _ _ ?_)
 clear k3 K3
 refine W_cond rfl (fun hc5_ => ?_) (fun hc5_ => ?_)
 ·
  replace h := h.1 hc5_
  refine W_seq_k fun K6 k6 => ?_
  refine W_region [2] rfl (Ops_step (R_assign rfl) rfl rfl ?_)
  refine Ops_nil ?_
  refine then_n (k6 _ _ ?_)
  clear k6 K6
  refine W_ret ?_
  refine block_ret ?_
  refine then_ret ?_
  clear k2 K2
  refine ⟨_, ⟨_, _, rfl, rfl, rfl⟩, ?_⟩
  exact ⟨6, z0, Ad0_1, cd0_1, _, _, rfl, hI, htd0, hcd0_1, hsd0_1, h⟩
 ·
  replace h := h.2 hc5_
  refine W_seq_k fun K7 k7 => ?_
  refine W_region [15, 16, 17, 18, 19, 14] rfl (Ops_step (R_move rfl) rfl rfl (Ops_step (R_nilCheck rfl) rfl rfl (Ops_step (R_fieldAddr fo46_2 rfl) rfl rfl ?_)))
  refine Ops_step (R_loadB (v := vi z0.gen_) ag3 rfl htd0.blk rfl) rfl rfl ?_
  refine Ops_step (R_geq rfl rfl) rfl rfl (Ops_step (R_assign rfl) rfl rfl ?_)
  refine Ops_nil ?_
  refine then_n (k7 _ _ ?_)
  clear k7 K7
  refine W_keepB [0, 14] fun B_ b_ => ?_
  simp only [e_, Nat.reduceAdd, Nat.reduceBEq] at b_
  subst b_
  refine W_if rfl (fun hc9_ => ?_) (fun hc9_ => ?_)
  ·
   replace h := h.1 hc9_
   refine W_seq_k fun K10 k10 => ?_
   refine W_region [2] rfl (Ops_step (R_assign rfl) rfl rfl ?_)
   refine Ops_nil ?_
   refine then_n (k10 _ _ ?_)
   clear k10 K10
   refine W_ret ?_
   refine block_ret ?_
   refine then_ret ?_
   clear k2 K2
   refine ⟨_, ⟨_, _, rfl, rfl, rfl⟩, ?_⟩
   exact ⟨5, z0, Ad0_1, cd0_1, _, _, rfl, hI, htd0, hcd0_1, hsd0_1, h⟩
  ·
   replace h := h.2 hc9_
   refine W_skip ?_
   refine block_n ?_
   refine then_n (k2 _ _ ?_)
   clear k2 K2
   refine W_seq_k fun K11 k11 => ?_
   refine W_region [20, 21, 22, 23, 24, 3, 4] rfl (Ops_step (R_move rfl) rfl rfl (Ops_step (R_nilCheck rfl) rfl rfl (Ops_step (R_fieldAddr fo46_2 rfl) rfl rfl ?_)))
   refine Ops_step (R_loadB (v := vi z0.gen_) ag3 rfl htd0.blk rfl) rfl rfl ?_
   have hk12_ := h.1
   replace h := h.2
   refine Ops_step (R_add rfl rfl (wI hk12_.1 hk12_.2)) rfl rfl (Ops_step (R_assign rfl) rfl rfl (Ops_step (R_assign rfl) rfl rfl ?_))
   refine Ops_nil ?_
   refine then_n (k11 _ _ ?_)
   clear k11 K11
   refine W_keepB [0, 3, 4] fun B_ b_ => ?_
   simp only [e_, Nat.reduceAdd, Nat.reduceBEq] at b_
   subst b_
   refine ex_ h fun J14_ hr14_ h => ?_
   refine W_seq_join [0, 3] [4] (fun vals_ w2 => ∃ (x4_14 : Int) (L H : Gh), vals_ = [vi x4_14] ∧ J14_ x4_14 ∧ Inv [d0] G w L H w2 ∧ Le L40_ L ∧ Le H4_ H ∧ Tok H w2 d0 46 ([.slice Ad0_1 z0.book_.l_.length cd0_1, .map none, .pointer none, vi z0.gen_, vi z0.place_]) ∧ True) (fun B_ b_ => ?_) (fun B_ b_ => ?_)
   ·
    simp only [e_, Nat.reduceAdd, Nat.reduceBEq] at b_
    subst b_
    clear hr14_
    have hll14_ := Le.refl L40_
    have hhh14_ := Le.refl H4_
    refine W_seq_k fun K15 k15 => ?_
    refine W_region [25, 26, 27, 28, 29] rfl (Ops_step (R_move rfl) rfl rfl (Ops_step (R_nilCheck rfl) rfl rfl (Ops_step (R_fieldAddr fo46_3 rfl) rfl rfl ?_)))
    refine Ops_step (R_loadB (v := vi z0.place_) ag3 rfl htd0.blk rfl) rfl rfl ?_
    refine Ops_step (R_eql rfl rfl) rfl rfl ?_
    refine Ops_nil ?_
    refine then_n (k15 _ _ ?_)
    clear k15 K15
    refine W_if rfl (fun hc16_ => ?_) (fun hc16_ => ?_)
    ·
     replace h := h.1 hc16_
     refine W_region [4] rfl (Ops_step (R_assign rfl) rfl rfl ?_)
     refine Ops_nil ?_
     refine then_n ?_
     exact ⟨_, rfl, ⟨2, _, _, rfl, h, hI, hll14_, hhh14_, htd0, trivial⟩, ⟨rfl, rfl, trivial⟩⟩
    ·
     replace h := h.2 hc16_
     refine W_skip ?_
     refine then_n ?_
     exact ⟨_, rfl, ⟨1, _, _, rfl, h, hI, hll14_, hhh14_, htd0, trivial⟩, ⟨rfl, rfl, trivial⟩⟩
   ·
    simp only [e_, Nat.reduceAdd, Nat.reduceBEq] at b_
    subst b_
    clear h
    clear htd0
    rintro _ w14_ ⟨x4_14, L14_, H14_, rfl, hJ14_, hI14_, hll14_, hhh14_, htd0, -⟩
    replace hI := hI14_
    clear hI14_
    have h := hr14_ x4_14 hJ14_
    clear hr14_ hJ14_
    replace hsd0_1 := hsd0_1.up hhh14_
    refine W_seq_k fun K17 k17 => ?_
    refine W_region [30, 31, 32, 33, 34, 35, 36, 37, 5] rfl (Ops_step (R_move rfl) rfl rfl (Ops_step (R_move rfl) rfl rfl (Ops_step (R_nilCheck rfl) rfl rfl (Ops_step (R_fieldAddr fo46_0 rfl) rfl rfl ?_))))
    refine Ops_step (R_fieldAddr fo44_0 rfl) rfl rfl ?_
    refine Ops_step (R_loadB (v := .slice Ad0_1 z0.book_.l_.length cd0_1) ag41 rfl htd0.blk rfl) rfl rfl ?_
    refine Ops_step (R_len Try.underlying41 rfl rfl) rfl rfl ?_
    refine Ops_call (C_func bd40 rfl) rfl rfl ?_
    refine (journal_head_ok (x0 := (z0.gen_ + 1)) (x1 := (z0.book_.l_.length : Int)) hI.st (hg.up hI.le)  h).mono ?_
    rintro _ w18_ ⟨A18_0, c18_0, r18_0, L18_, H18_, rfl, hI18_, ho18_0, h⟩
    refine Exists.elim (hI.call hI18_ (by simp)) fun L180_ h18_ => ?_
    have hz18_ := hI.size
    replace hI := h18_.1
    have u18_ := h18_.2.1
    have hl18_ := h18_.2.2
    clear h18_
    replace hsd0_1 := hsd0_1.up u18_.hh
    replace htd0 := htd0.up u18_ (by simp)
    replace ho18_0 := OwnS.backS ho18_0 hz18_ (Le.refl _)
    clear hI18_ u18_ hl18_
    refine ⟨_, rfl, ?_⟩
    refine Ops_step (R_assign rfl) rfl rfl ?_
    refine Ops_nil ?_
    refine then_n (k17 _ _ ?_)
    clear k17 K17
    refine W_keepB [0, 3, 4, 5] fun B_ b_ => ?_
    simp only [e_, Nat.reduceAdd, Nat.reduceBEq] at b_
    subst b_
    refine ex_ h fun J20_ hr20_ h => ?_
    refine W_seq_join [0, 3, 4] [5] (fun vals_ w2 => ∃ (x5_20 : List UInt8) (A5_20 : Option Addr) (c5_20 : Nat) (L H : Gh), vals_ = [.slice A5_20 x5_20.length c5_20] ∧ J20_ x5_20 ∧ Inv [d0] G w L H w2 ∧ Le L180_ L ∧ Le H18_ H ∧ OwnS w.heap.size 5 Gh.no H w2 A5_20 c5_20 x5_20 ∧ Tok H w2 d0 46 ([.slice Ad0_1 z0.book_.l_.length cd0_1, .map none, .pointer none, vi z0.gen_, vi z0.place_]) ∧ True) (fun B_ b_ => ?_) (fun B_ b_ => ?_)
    ·
     simp only [e_, Nat.reduceAdd, Nat.reduceBEq] at b_
     subst b_
     clear hr20_
     have hll20_ := Le.refl L180_
     have hhh20_ := Le.refl H18_
     refine W_seq_k fun K21 k21 => ?_
     refine W_region [38, 39, 40, 41, 42, 43, 44] rfl (Ops_step (R_move rfl) rfl rfl (Ops_step (R_nilCheck rfl) rfl rfl (Ops_step (R_fieldAddr fo46_0 rfl) rfl rfl (Ops_step (R_fieldAddr fo44_0 rfl) rfl rfl ?_))))
     refine Ops_step (R_loadB (v := .slice Ad0_1 z0.book_.l_.length cd0_1) ag41 rfl htd0.blk rfl) rfl rfl ?_
     refine Ops_step (R_len Try.underlying41 rfl rfl) rfl rfl (Ops_step (R_move rfl) rfl rfl ?_)
     refine Ops_nil ?_
     refine then_n (k21 _ _ ?_)
     clear k21 K21
     refine W_block ?_
     refine Exists.elim h fun I22_ h => Exists.elim h fun n22_ h => ?_
     have h0_ := h.1
     have hs22_ := h.2
     clear h
     refine W_loopB [0, 3, 4, 42, 43] [5, 44] (fun m vals_ w2 => ∃ (x5_22 : List UInt8) (A5_22 : Option Addr) (c5_22 : Nat) (x44_22 : Int) (L H : Gh), vals_ = [.slice A5_22 x5_22.length c5_22, vi x44_22] ∧ I22_ m x5_22 x44_22 ∧ Inv [d0] G w L H w2 ∧ Le L180_ L ∧ Le H18_ H ∧ OwnS w.heap.size 5 Gh.no H w2 A5_22 c5_22 x5_22 ∧ Tok H w2 d0 46 ([.slice Ad0_1 z0.book_.l_.length cd0_1, .map none, .pointer none, vi z0.gen_, vi z0.place_]) ∧ True) n22_ _ rfl ⟨r18_0, A18_0, c18_0, 0, _, _, rfl, h0_, hI, Le.refl _, Le.refl _, ho18_0, htd0, trivial⟩ fun B_ b_ => ?_
     clear h0_
     simp only [e_, Nat.reduceAdd, Nat.reduceBEq] at b_
     subst b_
     clear htd0
     rintro m22_ _ w22_ ⟨x5_22, A5_22, c5_22, x44_22, L22_, H22_, rfl, hJ22_, hI22_, hll22_, hhh22_, ho5_22, htd0, -⟩
     replace hI := hI22_
     clear hI22_
     have h := hs22_ m22_ x5_22 x44_22 hJ22_
     clear hs22_ hJ22_
     replace hsd0_1 := hsd0_1.up hhh22_
     replace hll20_ := hll20_.trans hll22_
     replace hhh20_ := hhh20_.trans hhh22_
     refine W_seq_k fun K23 k23 => ?_
     refine W_region [45] rfl (Ops_step (R_lss rfl rfl) rfl rfl ?_)
     refine Ops_nil ?_
     refine then_n (k23 _ _ ?_)
     clear k23 K23
     refine W_seq_k fun K24 k24 => ?_
     refine W_if rfl (fun hc25_ => ?_) (fun hc25_ => ?_)
     ·
      replace h := h.1 hc25_
      refine W_skip ?_
      refine then_n (k24 _ _ ?_)
      clear k24 K24
      refine W_seq_k fun K26 k26 => ?_
      refine W_block ?_
      refine W_seq_k fun K27 k27 => ?_
      refine W_region [46, 47, 48, 7, 6, none] rfl (Ops_step (R_move rfl) rfl rfl ?_)
      refine ex_ h fun x28_ hx28_ h => ?_
      have ha28_ := (Sl.atN (n := 2) rfl (by decide) hsd0_1 hx28_).1
      refine Exists.elim (Sl.atN (n := 2) rfl (by decide) hsd0_1 hx28_).2 fun l28_ hA28_ => ?_
      have hr28_ := hA28_.1
      have hg28_ := hA28_.2
      clear hA28_
      refine Ops_step (R_indexSl Try.underlying41 sz85 rfl rfl hx28_.1 hx28_.lt ha28_) rfl rfl ?_
      obtain ⟨A28_1, c28_1, rfl, ⟨hc28_1, hs28_1⟩⟩ := hr28_
      refine Ops_step (R_loadCs (cs := [vi x28_.label_, .slice A28_1 x28_.data_.length c28_1]) ag85 sz85 rfl (fun j_ v_ hv_ => hI.st _ _ (hg28_ j_ v_ hv_))) rfl rfl ?_
      have hI0_ := hI
      refine Ops_to (R_alloc zr85) rfl rfl ?_
      rintro _ w29_ ⟨b29_, rfl, hb29_, hB29_, hF29_⟩
      replace hI := hI.fr0 hF29_
      replace htd0 := htd0.fr0 hF29_
      replace ho5_22 := ho5_22.fr0 hF29_
      have ht29_ : Tok H22_ _ b29_ 85 ([vi 0, .slice none 0 0]) := ⟨hB29_.to rfl, Out.ge hI0_.st (Nat.le_of_eq hb29_.symm)⟩
      have hge_b29_ : w.heap.size ≤ b29_ := hb29_ ▸ hI0_.size
      clear hB29_ hb29_ hI0_ hF29_
      refine Ops_step (R_assign rfl) rfl rfl ?_
      refine Ops_to0 (R_storeN sz85 rfl rfl rfl ht29_.blk (Nat.le_of_ble_eq_true rfl) rfl) rfl ?_
      rintro _ w30_ ⟨hB30_, hF30_⟩
      replace hI := hI.tok hF30_ (out1 ht29_.out) (new1 hge_b29_)
      replace htd0 := htd0.fr hF30_ (htd0.apart ht29_ (by decide))
      replace ho5_22 := ho5_22.fr hF30_ (ho5_22.ne ht29_.blk (by decide))
      replace ht29_ : Tok H22_ _ b29_ 85 ([vi x28_.label_, .slice A28_1 x28_.data_.length c28_1]) := ⟨hB30_, ht29_.out⟩
      clear hF30_ hB30_
      refine Ops_nil ?_
      refine then_n (k27 _ _ ?_)
      clear k27 K27
      refine W_region [49, 50, 51, 52, 53, 5] rfl (Ops_step (R_move rfl) rfl rfl (Ops_step (R_move rfl) rfl rfl (Ops_step (R_loadN ag85 sz85 rfl ht29_.blk (Nat.le_of_ble_eq_true rfl)) rfl rfl ?_)))
      refine Ops_call (C_func bd41 rfl) rfl rfl ?_
      refine (journal_tell_ok (x0 := x44_22) (x1 := x28_) hI.st (hg.up hI.le) ⟨A28_1, c28_1, rfl, ⟨hc28_1, hs28_1⟩⟩ h).mono ?_
      have hlo31_0_ho5_22 := ho5_22.lt
      rintro _ w31_ ⟨A31_0, c31_0, r31_0, L31_, H31_, rfl, hI31_, ho31_0, h⟩
      refine Exists.elim (hI.call hI31_ (by simp)) fun L310_ h31_ => ?_
      have hz31_ := hI.size
      replace hI := h31_.1
      have u31_ := h31_.2.1
      have hl31_ := h31_.2.2
      clear h31_
      replace hsd0_1 := hsd0_1.up u31_.hh
      replace hll20_ := hll20_.trans u31_.ll
      replace hhh20_ := hhh20_.trans u31_.hh
      replace htd0 := htd0.up u31_ (by simp)
      replace ho5_22 := ho5_22.up (Le.refl _) u31_ (by simp)
      replace hll22_ := hll22_.trans u31_.ll
      replace hhh22_ := hhh22_.trans u31_.hh
      have hsp31_0_ho5_22 : ∀ i ∈ bk A31_0 c31_0, i ∉ bk A5_22 c5_22 := sep_new ho31_0.off hlo31_0_ho5_22
      replace ho31_0 := OwnS.backS ho31_0 hz31_ (Le.refl _)
      clear hI31_ u31_ hl31_
      refine ⟨_, rfl, ?_⟩
      refine Exists.elim (ho31_0.freeze hI) fun L32_ h32_ => Exists.elim h32_ fun H32_ h32_ => ?_
      replace hI := h32_.1
      have u32_ := h32_.2.1
      have hs32_ := h32_.2.2.1 (Le.no _)
      have hc32_ := ho31_0.cap
      replace hsd0_1 := hsd0_1.up u32_.hh
      replace hll20_ := hll20_.trans u32_.ll
      replace hhh20_ := hhh20_.trans u32_.hh
      replace htd0 := htd0.up u32_ (ho31_0.old hlt_d0)
      replace ho5_22 := ho5_22.up (Le.refl _) u32_ (sep_sym hsp31_0_ho5_22)
      replace hll22_ := hll22_.trans u32_.ll
      replace hhh22_ := hhh22_.trans u32_.hh
      clear h32_ u32_ ho31_0
      have hk34_ := h.1
      replace h := h.2
      refine Ops_to (X_append (α := UInt8) (xs := x5_22) (ys := r31_0) el29 rfl rfl ho5_22 (Srcs.sc (Srcs.ofSl Try.underlying29 (hs32_.up hI.sub) hI.st (by decide))) hI.st hk34_ (by decide) hI.size) rfl rfl ?_
      rintro _ w33_ ⟨A33_, c33_, rfl, ho33_, hF33_, hbk33_⟩
      clear hbk33_
      replace hI := hI.tok hF33_ ho5_22.out (ho5_22.new (Nat.le_refl _))
      replace htd0 := htd0.fr hF33_ (ho5_22.old hlt_d0)
      clear hF33_ ho5_22
      refine Ops_step (R_assign rfl) rfl rfl ?_
      refine Ops_nil ?_
      refine block_n ?_
      refine then_n (k26 _ _ ?_)
      clear k26 K26
      refine W_keepB [0, 3, 4, 5, 42, 43, 44] fun B_ b_ => ?_
      simp only [e_, Nat.reduceAdd, Nat.reduceBEq] at b_
      subst b_
      refine W_region [54, 44] rfl ?_
      have hk36_ := h.1
      replace h := h.2
      refine Ops_step (R_add rfl rfl (wI hk36_.1 hk36_.2)) rfl rfl (Ops_step (R_move rfl) rfl rfl ?_)
      refine Ops_nil ?_
      refine then_n ?_
      exact h.elim fun m_ h => ⟨m_, _, h.1, rfl, ⟨(x5_22 ++ r31_0), A33_, c33_, (x44_22 + 1), _, _, rfl, h.2, hI, hll22_, hhh22_, ho33_, htd0, trivial⟩, ⟨rfl, rfl, rfl, rfl, rfl, trivial⟩⟩
     ·
      replace h := h.2 hc25_
      refine W_exit ?_
      refine then_exit ?_
      clear k24 K24
      refine then_exit ?_
      refine block_exit ?_
      refine then_n ?_
      exact ⟨_, rfl, ⟨x5_22, A5_22, c5_22, _, _, rfl, h, hI, hll20_, hhh20_, ho5_22, htd0, trivial⟩, ⟨rfl, rfl, rfl, trivial⟩⟩
    ·
     simp only [e_, Nat.reduceAdd, Nat.reduceBEq] at b_
     subst b_
     clear h
     clear htd0
     rintro _ w20_ ⟨x5_20, A5_20, c5_20, L20_, H20_, rfl, hJ20_, hI20_, hll20_, hhh20_, ho5_20, htd0, -⟩
     replace hI := hI20_
     clear hI20_
     have h := hr20_ x5_20 hJ20_
     clear hr20_ hJ20_
     replace hsd0_1 := hsd0_1.up hhh20_
     refine W_seq_k fun K37 k37 => ?_
     refine W_seq_k fun K38 k38 => ?_
     refine W_region [55, 56, 57, 58, 59, 60, 8] rfl (Ops_step (R_move rfl) rfl rfl (Ops_step (R_nilCheck rfl) rfl rfl (Ops_step (R_fieldAddr fo46_1 rfl) rfl rfl ?_)))
     refine Ops_step (R_loadB (v := .pointer none) ag25 rfl htd0.blk rfl) rfl rfl ?_
     refine Ops_step (R_move rfl) rfl rfl ?_
     refine Ops_call (C_func bd42 rfl) rfl rfl ?_
     refine (disk_Disk_Wipe_v1_ok (x1 := x4_14) hI.st (hg.up hI.le)  h).mono ?_
     rintro _ w39_ ⟨r39_0, L39_, H39_, rfl, hI39_, h⟩
     refine Exists.elim (hI.call hI39_ (by simp)) fun L390_ h39_ => ?_
     have hz39_ := hI.size
     replace hI := h39_.1
     have u39_ := h39_.2.1
     have hl39_ := h39_.2.2
     clear h39_
     replace hsd0_1 := hsd0_1.up u39_.hh
     replace htd0 := htd0.up u39_ (by simp)
     replace ho5_20 := ho5_20.up (Le.refl _) u39_ (by simp)
     clear hI39_ u39_ hl39_
     refine ⟨_, rfl, ?_⟩
     refine Ops_step (R_assign rfl) rfl rfl ?_
     refine Ops_nil ?_
     refine then_n (k38 _ _ ?_)
     clear k38 K38
     refine W_keepB [0, 3, 4, 5, 8] fun B_ b_ => ?_
     simp only [e_, Nat.reduceAdd, Nat.reduceBEq] at b_
     subst b_
     refine W_seq_k fun K41 k41 => ?_
     refine W_region [61, 62] rfl (Ops_step (R_move rfl) rfl rfl (Ops_step (R_neq rfl rfl) rfl rfl ?_))
     refine Ops_nil ?_
     refine then_n (k41 _ _ ?_)
     clear k41 K41
     refine W_if rfl (fun hc42_ => ?_) (fun hc42_ => ?_)
     ·
      replace h := h.1 hc42_
      refine W_seq_k fun K43 k43 => ?_
      refine W_region [63, 2] rfl (Ops_step (R_move rfl) rfl rfl (Ops_step (R_assign rfl) rfl rfl ?_))
      refine Ops_nil ?_
      refine then_n (k43 _ _ ?_)
      clear k43 K43
      refine W_keepB [2] fun B_ b_ => ?_
      simp only [e_, Nat.reduceAdd, Nat.reduceBEq] at b_
      subst b_
      refine W_ret ?_
      refine then_ret ?_
      clear k37 K37
      refine ⟨_, ⟨_, _, rfl, rfl, rfl⟩, ?_⟩
      exact ⟨r39_0, z0, Ad0_1, cd0_1, _, _, rfl, hI, htd0, hcd0_1, hsd0_1, h⟩
     ·
      replace h := h.2 hc42_
      refine W_skip ?_
      refine then_n (k37 _ _ ?_)
      clear k37 K37
      refine W_seq_k fun K45 k45 => ?_
      refine W_seq_k fun K46 k46 => ?_
      refine W_region [64, 65, 66, 67, 68, 69, 70, 9] rfl (Ops_step (R_move rfl) rfl rfl (Ops_step (R_nilCheck rfl) rfl rfl (Ops_step (R_fieldAddr fo46_1 rfl) rfl rfl ?_)))
      refine Ops_step (R_loadB (v := .pointer none) ag25 rfl htd0.blk rfl) rfl rfl ?_
      refine Ops_step (R_move rfl) rfl rfl (Ops_step (R_move rfl) rfl rfl ?_)
      refine Exists.elim (ho5_20.lend hI.st (Le.no _)) fun Hb47_0_ hb47_0_ => ?_
      refine Ops_call (C_func bd26 rfl) rfl rfl ?_
      refine (disk_Disk_Append_v1_ok (x1 := x4_14) (x2 := x5_20) hb47_0_.1 (hg.up (hI.le.trans hb47_0_.2.1)) ho5_20.cap hb47_0_.2.2 h).mono ?_
      rintro _ w47_ ⟨r47_0, L47_, H47_, rfl, hI47_, h⟩
      refine Exists.elim (hI.callB hb47_0_.2.1 hI47_ (by simp)) fun L470_ h47_ => Exists.elim h47_ fun H470_ h47_ => ?_
      have hz47_ := hI.size
      replace hI := h47_.1
      have u47_ := h47_.2.1
      have hl47_ := h47_.2.2.1
      have hh47_ := h47_.2.2.2
      clear h47_
      replace hsd0_1 := hsd0_1.up u47_.hh
      replace htd0 := htd0.up u47_ (by simp)
      clear hI47_ u47_ hl47_
      refine ⟨_, rfl, ?_⟩
      refine Ops_step (R_assign rfl) rfl rfl ?_
      refine Ops_nil ?_
      refine then_n (k46 _ _ ?_)
      clear k46 K46
      refine W_keepB [0, 3, 4, 9] fun B_ b_ => ?_
      simp only [e_, Nat.reduceAdd, Nat.reduceBEq] at b_
      subst b_
      refine W_seq_k fun K49 k49 => ?_
      refine W_region [71, 72] rfl (Ops_step (R_move rfl) rfl rfl (Ops_step (R_neq rfl rfl) rfl rfl ?_))
      refine Ops_nil ?_
      refine then_n (k49 _ _ ?_)
      clear k49 K49
      refine W_if rfl (fun hc50_ => ?_) (fun hc50_ => ?_)
      ·
       replace h := h.1 hc50_
       refine W_seq_k fun K51 k51 => ?_
       refine W_region [73, 2] rfl (Ops_step (R_move rfl) rfl rfl (Ops_step (R_assign rfl) rfl rfl ?_))
       refine Ops_nil ?_
       refine then_n (k51 _ _ ?_)
       clear k51 K51
       refine W_keepB [2] fun B_ b_ => ?_
       simp only [e_, Nat.reduceAdd, Nat.reduceBEq] at b_
       subst b_
       refine W_ret ?_
       refine then_ret ?_
       clear k45 K45
       refine ⟨_, ⟨_, _, rfl, rfl, rfl⟩, ?_⟩
       exact ⟨r47_0, z0, Ad0_1, cd0_1, _, _, rfl, hI, htd0, hcd0_1, hsd0_1, h⟩
      ·
       replace h := h.2 hc50_
       refine W_skip ?_
       refine then_n (k45 _ _ ?_)
       clear k45 K45
       refine W_seq_k fun K53 k53 => ?_
       refine W_region [74, 75, 76, 77, 78, 79, none, 80, 81, none] rfl (Ops_step (R_move rfl) rfl rfl (Ops_step (R_move rfl) rfl rfl (Ops_step (R_move rfl) rfl rfl (Ops_step (R_move rfl) rfl rfl ?_))))
       refine Ops_step (R_nilCheck rfl) rfl rfl (Ops_step (R_fieldAddr fo46_2 rfl) rfl rfl ?_)
       refine Ops_to0 (R_store sz3 rfl rfl htd0.blk (by show 3 < 5; decide) rfl) rfl ?_
       rintro _ w54_ ⟨hB54_, hF54_⟩
       replace hI := hI.tok hF54_ (out1 htd0.out) (mem1 (by simp))
       replace htd0 : Tok H470_ _ d0 46 ([.slice Ad0_1 z0.book_.l_.length cd0_1, .map none, .pointer none, vi (z0.gen_ + 1), vi z0.place_]) := ⟨hB54_, htd0.out⟩
       clear hF54_ hB54_
       refine Ops_step (R_nilCheck rfl) rfl rfl (Ops_step (R_fieldAddr fo46_3 rfl) rfl rfl ?_)
       refine Ops_to0 (R_store sz3 rfl rfl htd0.blk (by show 4 < 5; decide) rfl) rfl ?_
       rintro _ w55_ ⟨hB55_, hF55_⟩
       replace hI := hI.tok hF55_ (out1 htd0.out) (mem1 (by simp))
       replace htd0 : Tok H470_ _ d0 46 ([.slice Ad0_1 z0.book_.l_.length cd0_1, .map none, .pointer none, vi (z0.gen_ + 1), vi x4_14]) := ⟨hB55_, htd0.out⟩
       clear hF55_ hB55_
       refine Ops_nil ?_
       refine then_n (k53 _ _ ?_)
       clear k53 K53
       refine W_keepB [0, 3] fun B_ b_ => ?_
       simp only [e_, Nat.reduceAdd, Nat.reduceBEq] at b_
       subst b_
       refine W_seq_k fun K57 k57 => ?_
       refine W_seq_k fun K58 k58 => ?_
       refine W_region [82, 83, 84, 85, 86, 10] rfl (Ops_step (R_move rfl) rfl rfl (Ops_step (R_nilCheck rfl) rfl rfl (Ops_step (R_fieldAddr fo46_1 rfl) rfl rfl ?_)))
       refine Ops_step (R_loadB (v := .pointer none) ag25 rfl htd0.blk rfl) rfl rfl ?_
       refine Ops_call (C_func bd42 rfl) rfl rfl ?_
       refine (disk_Disk_Wipe_v1_ok (x1 := 0) hI.st (hg.up hI.le)  h).mono ?_
       rintro _ w59_ ⟨r59_0, L59_, H59_, rfl, hI59_, h⟩
       refine Exists.elim (hI.call hI59_ (by simp)) fun L590_ h59_ => ?_
       have hz59_ := hI.size
       replace hI := h59_.1
       have u59_ := h59_.2.1
       have hl59_ := h59_.2.2
       clear h59_
       replace hsd0_1 := hsd0_1.up u59_.hh
       replace htd0 := htd0.up u59_ (by simp)
       clear hI59_ u59_ hl59_
       refine ⟨_, rfl, ?_⟩
       refine Ops_step (R_assign rfl) rfl rfl ?_
       refine Ops_nil ?_
       refine then_n (k58 _ _ ?_)
       clear k58 K58
       refine W_seq_k fun K60 k60 => ?_
       refine W_region [87, 88] rfl (Ops_step (R_move rfl) rfl rfl (Ops_step (R_neq rfl rfl) rfl rfl ?_))
       refine Ops_nil ?_
       refine then_n (k60 _ _ ?_)
       clear k60 K60
       refine W_keepB [0, 3, 10, 88] fun B_ b_ => ?_
       simp only [e_, Nat.reduceAdd, Nat.reduceBEq] at b_
       subst b_
       refine W_if rfl (fun hc62_ => ?_) (fun hc62_ => ?_)
       ·
        replace h := h.1 hc62_
        refine W_seq_k fun K63 k63 => ?_
        refine W_region [89, 2] rfl (Ops_step (R_move rfl) rfl rfl (Ops_step (R_assign rfl) rfl rfl ?_))
        refine Ops_nil ?_
        refine then_n (k63 _ _ ?_)
        clear k63 K63
        refine W_ret ?_
        refine then_ret ?_
        clear k57 K57
        refine ⟨_, ⟨_, _, rfl, rfl, rfl⟩, ?_⟩
        exact ⟨r59_0, (journal_Journal.mk z0.book_ (z0.gen_ + 1) x4_14), Ad0_1, cd0_1, _, _, rfl, hI, htd0, hcd0_1, hsd0_1, h⟩
       ·
        replace h := h.2 hc62_
        refine W_skip ?_
        refine then_n (k57 _ _ ?_)
        clear k57 K57
        refine W_seq_k fun K64 k64 => ?_
        refine W_drawF [90, 91, 92, 93, 94, 95, 96, 97, 98, 99, 100, 101, 102, 2] [(0, true), (1, true), (2, true), (3, true), (4, true), (5, true), (6, true), (7, true), (8, true), (9, true), (10, true), (11, false), (12, false), (13, true)] TJtK.hm rfl (by kernel_rfl) fun ops65_ w65_ hops65_ hF65_ => ?_
        replace hI := hI.fr0 hF65_
        replace htd0 := htd0.fr0 hF65_
        clear hF65_
        refine HSp (R_move rfl) rfl rfl (HSp (R_nilCheck rfl) rfl rfl (HSp (R_fieldAddr fo46_1 rfl) rfl rfl ?_))
        refine HS_loadB (v := .pointer none) ag25 rfl htd0.blk rfl rfl rfl ?_
        refine HSp (R_move rfl) rfl rfl (HSp (R_move rfl) rfl rfl (HSp (R_nilCheck rfl) rfl rfl (HSp (R_fieldAddr fo46_0 rfl) rfl rfl (HSp (R_fieldAddr fo44_0 rfl) rfl rfl ?_))))
        refine HS_loadB (v := .slice Ad0_1 z0.book_.l_.length cd0_1) ag41 rfl htd0.blk rfl rfl rfl ?_
        refine HSp (R_len Try.underlying41 rfl rfl) rfl rfl ?_
        refine HS_call [3] _ rfl (by rw [hops65_]; kernel_rfl) (C_func bd40 rfl) rfl rfl ?_
        refine (journal_head_ok (x0 := (z0.gen_ + 1)) (x1 := (z0.book_.l_.length : Int)) hI.st (hg.up hI.le)  h).mono ?_
        rintro _ w66_ ⟨A66_0, c66_0, r66_0, L66_, H66_, rfl, hI66_, ho66_0, h⟩
        refine Exists.elim (hI.call hI66_ (by simp)) fun L660_ h66_ => ?_
        have hz66_ := hI.size
        replace hI := h66_.1
        have u66_ := h66_.2.1
        have hl66_ := h66_.2.2
        clear h66_
        replace hsd0_1 := hsd0_1.up u66_.hh
        replace htd0 := htd0.up u66_ (by simp)
        replace ho66_0 := OwnS.backS ho66_0 hz66_ (Le.refl _)
        clear hI66_ u66_ hl66_
        refine ⟨_, rfl, ⟨(htd0.blk.at_ rfl), trivial⟩, ?_⟩
        refine Exists.elim (ho66_0.freeze hI) fun L67_ h67_ => Exists.elim h67_ fun H67_ h67_ => ?_
        replace hI := h67_.1
        have u67_ := h67_.2.1
        have hs67_ := h67_.2.2.1 (Le.no _)
        have hc67_ := ho66_0.cap
        replace hsd0_1 := hsd0_1.up u67_.hh
        replace htd0 := htd0.up u67_ (ho66_0.old hlt_d0)
        clear h67_ u67_ ho66_0
        refine HS_call [] _ rfl (by rw [hops65_]; kernel_rfl) (C_func bd26 rfl) rfl rfl ?_
        refine (disk_Disk_Append_v1_ok (x1 := 0) (x2 := r66_0) hI.st (hg.up hI.le) hc67_ (hs67_.up hI.sub) h).mono ?_
        rintro _ w68_ ⟨r68_0, L68_, H68_, rfl, hI68_, h⟩
        refine Exists.elim (hI.call hI68_ (by simp)) fun L680_ h68_ => ?_
        have hz68_ := hI.size
        replace hI := h68_.1
        have u68_ := h68_.2.1
        have hl68_ := h68_.2.2
        clear h68_
        replace hsd0_1 := hsd0_1.up u68_.hh
        replace htd0 := htd0.up u68_ (by simp)
        clear hI68_ u68_ hl68_
        refine ⟨_, rfl, trivial, ?_⟩
        refine HSp (R_assign rfl) rfl rfl ?_
        refine HS_nil ?_
        clear hops65_
        refine then_n (k64 _ _ ?_)
        clear k64 K64
        refine W_keepB [2] fun B_ b_ => ?_
        simp only [e_, Nat.reduceAdd, Nat.reduceBEq] at b_
        subst b_
        refine W_ret ?_
        refine ⟨_, ⟨_, _, rfl, rfl, rfl⟩, ?_⟩
        exact ⟨r68_0, (journal_Journal.mk z0.book_ (z0.gen_ + 1) x4_14), Ad0_1, cd0_1, _, _, rfl, hI, htd0, hcd0_1, hsd0_1, h⟩

theorem journal_Journal_Len_v2_ok {G : Gh} {w : World} (hS : St G w) (hg : GL G) {d0 : Nat} {z0 : journal_Journal} {Ad0_1 : Option Addr} {cd0_1 : Nat} (htd0 : Tok G w d0 46 ([.slice Ad0_1 z0.book_.l_.length cd0_1, .map none, .pointer none, vi z0.gen_, vi z0.place_])) (hcd0_1 : z0.book_.l_.length ≤ cd0_1) (hsd0_1 : Sl G Ad0_1 z0.book_.l_) {Q : Int → Prop} (h : journal_Journal_Len_v2 z0 Q) : Calls Try.prog 19 #[.pointer (some ⟨d0, 0, none⟩)] w fun e w2 => ∃ (r0 : Int) (L H : Gh), e = .returned (vi r0) ∧ Inv [] G w L H w2 ∧ Q r0 := by
 unfold journal_Journal_Len_v2 at h
 have hI := Inv.start (M := []) hS
 refine calls_W 11 Try.func19 rfl Try.ntmps19 rfl [.tmp 2] rfl ?_
 have hlt_d0 := htd0.blk.lt
 refine W_seq_k fun K1 k1 => ?_
 refine W_region [2] rfl (Ops_step (R_assign rfl) rfl rfl ?_)
 refine Ops_nil ?_
 refine then_n (k1 _ _ ?_)
 clear k1 K1
 refine W_seq_k fun K2 k2 => ?_
 refine W_seq_k fun K3 k3 => ?_
 refine W_region [3, 4] rfl (Ops_step (R_move rfl) rfl rfl ?_)
 refine Ops_call (C_func bd39 rfl) rfl rfl ?_
 refine (journal_Journal_dead_v2_ok (z0 := z0) hI.st (hg.up hI.le) htd0 hcd0_1 hsd0_1 h).mono ?_
 rintro _ w4_ ⟨r4_0, L4_, H4_, rfl, hI4_, h⟩
 refine Exists.elim (hI.call hI4_ (by simp)) fun L40_ h4_ => ?_
 have hz4_ := hI.size
 replace hI := h4_.1
 have u4_ := h4_.2.1
 have hl4_ := h4_.2.2
 clear h4_
 replace hsd0_1 := hsd0_1.up u4_.hh
 replace htd0 := htd0.up u4_ (by simp)
 clear hI4_ u4_ hl4_
 refine ⟨_, rfl, ?_⟩
 refine Ops_nil ?_
 refine then_n (k3 _ _ ?_)
 clear k3 K3
 refine W_cond rfl (fun hc5_ => ?_) (fun hc5_ => ?_)
 ·
  replace h := h.1 hc5_
  refine W_seq_k fun K6 k6 => ?_
  refine W_region [2] rfl (Ops_step (R_assign rfl) rfl rfl ?_)
  refine Ops_nil ?_
  refine then_n (k6 _ _ ?_)
  clear k6 K6
  refine W_ret ?_
  refine then_ret ?_
  clear k2 K2
  refine ⟨_, ⟨_, _, rfl, rfl, rfl⟩, ?_⟩
  exact ⟨0, _, _, rfl, hI, h⟩
 ·
  replace h := h.2 hc5_
  refine W_skip ?_
  refine then_n (k2 _ _ ?_)
  clear k2 K2
  refine W_seq_k fun K7 k7 => ?_
  refine W_region [5, 6, 7, 8, 9, 10, 2] rfl (Ops_step (R_move rfl) rfl rfl (Ops_step (R_nilCheck rfl) rfl rfl (Ops_step (R_fieldAddr fo46_0 rfl) rfl rfl (Ops_step (R_fieldAddr fo44_0 rfl) rfl rfl ?_))))
  refine Ops_step (R_loadB (v := .slice Ad0_1 z0.book_.l_.length cd0_1) ag41 rfl htd0.blk rfl) rfl rfl ?_
  refine Ops_step (R_len Try.underlying41 rfl rfl) rfl rfl (Ops_step (R_assign rfl) rfl rfl ?_)
  refine Ops_nil ?_
  refine then_n (k7 _ _ ?_)
  clear k7 K7
  refine W_keepB [2] fun B_ b_ => ?_
  simp only [e_, Nat.reduceAdd, Nat.reduceBEq] at b_
  subst b_
  refine W_ret ?_
  refine ⟨_, ⟨_, _, rfl, rfl, rfl⟩, ?_⟩
  exact ⟨(z0.book_.l_.length : Int), _, _, rfl, hI, h⟩

theorem journal_Journal_Bytes_v2_ok {G : Gh} {w : World} (hS : St G w) (hg : GL G) {d0 : Nat} {z0 : journal_Journal} {Ad0_1 : Option Addr} {cd0_1 : Nat} (htd0 : Tok G w d0 46 ([.slice Ad0_1 z0.book_.l_.length cd0_1, .map none, .pointer none, vi z0.gen_, vi z0.place_])) (hcd0_1 : z0.book_.l_.length ≤ cd0_1) (hsd0_1 : Sl G Ad0_1 z0.book_.l_) {x1 : Int} {Q : Int → Prop} (h : journal_Journal_Bytes_v2 z0 x1 Q) : Calls Try.prog 17 #[.pointer (some ⟨d0, 0, none⟩), vi x1] w fun e w2 => ∃ (r0 : Int) (L H : Gh), e = .returned (vi r0) ∧ Inv [] G w L H w2 ∧ Q r0 := by
 unfold journal_Journal_Bytes_v2 at h
 have hI := Inv.start (M := []) hS
 refine calls_W 14 Try.func17 rfl Try.ntmps17 rfl [.tmp 4] rfl ?_
 have hlt_d0 := htd0.blk.lt
 refine W_seq_k fun K1 k1 => ?_
 refine W_region [4] rfl (Ops_step (R_assign rfl) rfl rfl ?_)
 refine Ops_nil ?_
 refine then_n (k1 _ _ ?_)
 clear k1 K1
 refine W_seq_k fun K2 k2 => ?_
 refine W_seq_k fun K3 k3 => ?_
 refine W_region [5, 6] rfl (Ops_step (R_move rfl) rfl rfl ?_)
 refine Ops_call (C_func bd39 rfl) rfl rfl ?_
 refine (journal_Journal_dead_v2_ok (z0 := z0) hI.st (hg.up hI.le) htd0 hcd0_1 hsd0_1 h).mono ?_
 rintro _ w4_ ⟨r4_0, L4_, H4_, rfl, hI4_, h⟩
 refine Exists.elim (hI.call hI4_ (by simp)) fun L40_ h4_ => ?_
 have hz4_ := hI.size
 replace hI := h4_.1
 have u4_ := h4_.2.1
 have hl4_ := h4_.2.2
 clear h4_
 replace hsd0_1 := hsd0_1.up u4_.hh
 replace htd0 := htd0.up u4_ (by simp)
 clear hI4_ u4_ hl4_
 refine ⟨_, rfl, ?_⟩
 refine Ops_nil ?_
 refine then_n (k3 _ _ ?_)
 clear k3 K3
 refine W_cond rfl (fun hc5_ => ?_) (fun hc5_ => ?_)
 ·
  replace h := h.1 hc5_
  refine W_seq_k fun K6 k6 => ?_
  refine W_region [4] rfl (Ops_step (R_assign rfl) rfl rfl ?_)
  refine Ops_nil ?_
  refine then_n (k6 _ _ ?_)
  clear k6 K6
  refine W_ret ?_
  refine then_ret ?_
  clear k2 K2
  refine ⟨_, ⟨_, _, rfl, rfl, rfl⟩, ?_⟩
  exact ⟨0, _, _, rfl, hI, h⟩
 ·
  replace h := h.2 hc5_
  refine W_skip ?_
  refine then_n (k2 _ _ ?_)
  clear k2 K2
  refine W_seq_k fun K7 k7 => ?_
  refine W_region [7, 8, 9, 10, 11, 12, 13, 4] rfl (Ops_step (R_move rfl) rfl rfl (Ops_step (R_nilCheck rfl) rfl rfl (Ops_step (R_fieldAddr fo46_0 rfl) rfl rfl (Ops_step (R_fieldAddr fo44_1 rfl) rfl rfl ?_))))
  refine Ops_step (R_loadB (v := .map none) ag42 rfl htd0.blk rfl) rfl rfl ?_
  refine Ops_step (R_move rfl) rfl rfl ?_
  exact h.elim

theorem disk_Disk_Read_v1_ok {G : Gh} {w : World} (hS : St G w) (hg : GL G) {x1 : Int} {Q : (List UInt8) → Int → Prop} (h : disk_Disk_Read_v1 x1 Q) : Calls Try.prog 44 #[.pointer none, vi x1] w fun e w2 => ∃ (A0 : Option Addr) (c0 : Nat) (r0 : List UInt8) (r1 : Int) (L H : Gh), e = .returned (.tuple #[.slice A0 r0.length c0, vi r1]) ∧ Inv [] G w L H w2 ∧ r0.length ≤ c0 ∧ Sl L A0 r0 ∧ Q r0 r1 := by
 unfold disk_Disk_Read_v1 at h
 have hI := Inv.start (M := []) hS
 refine calls_W 21 Try.func44 rfl Try.ntmps44 rfl [.tmp 4, .tmp 5] rfl ?_
 refine W_seq_k fun K1 k1 => ?_
 refine W_region [4, 5] rfl (Ops_step (R_assign rfl) rfl rfl (Ops_step (R_assign rfl) rfl rfl ?_))
 refine Ops_nil ?_
 refine then_n (k1 _ _ ?_)
 clear k1 K1
 refine W_seq_k fun K2 k2 => ?_
 refine W_seq_k fun K3 k3 => ?_
 refine W_region [7, 8, 9, 6] rfl (Ops_step (R_move rfl) rfl rfl (Ops_step (R_move rfl) rfl rfl ?_))
 refine Ops_call (C_func bd48 rfl) rfl rfl ?_
 refine (disk_Disk_able_v1_ok (x1 := x1) hI.st (hg.up hI.le)  h).mono ?_
 rintro _ w4_ ⟨r4_0, L4_, H4_, rfl, hI4_, h⟩
 refine Exists.elim (hI.call hI4_ (by simp)) fun L40_ h4_ => ?_
 have hz4_ := hI.size
 replace hI := h4_.1
 have u4_ := h4_.2.1
 have hl4_ := h4_.2.2
 clear h4_
 clear hI4_ u4_ hl4_
 refine ⟨_, rfl, ?_⟩
 refine Ops_step (R_assign rfl) rfl rfl ?_
 refine Ops_nil ?_
 refine then_n (k3 _ _ ?_)
 clear k3 K3
 refine W_seq_k fun K5 k5 => ?_
 refine W_region [10, 11] rfl (Ops_step (R_move rfl) rfl rfl (Ops_step (R_neq rfl rfl) rfl rfl ?_))
 refine Ops_nil ?_
 refine then_n (k5 _ _ ?_)
 clear k5 K5
 refine W_keepB [0, 1, 6, 11] fun B_ b_ => ?_
 simp only [e_, Nat.reduceAdd, Nat.reduceBEq] at b_
 subst b_
 refine W_if rfl (fun hc7_ => ?_) (fun hc7_ => ?_)
 ·
  replace h := h.1 hc7_
  refine W_seq_k fun K8 k8 => ?_
  refine W_region [12, 4, 5] rfl (Ops_step (R_move rfl) rfl rfl (Ops_step (R_assign rfl) rfl rfl (Ops_step (R_assign rfl) rfl rfl ?_)))
  refine Ops_nil ?_
  refine then_n (k8 _ _ ?_)
  clear k8 K8
  refine W_ret ?_
  refine then_ret ?_
  clear k2 K2
  refine ⟨_, ⟨_, _, rfl, rfl, ⟨_, _, rfl, rfl, rfl⟩⟩, ?_⟩
  exact ⟨none, 0, [], r4_0, _, _, rfl, hI, (Nat.le_refl 0), Sl.nil, h⟩
 ·
  replace h := h.2 hc7_
  refine W_skip ?_
  refine then_n (k2 _ _ ?_)
  clear k2 K2
  refine W_seq_k fun K9 k9 => ?_
  refine W_region [13, 14, 15, 16, 17, 18, 19, 20, 4, 5] rfl ?_
  refine Ops_to (R_buildSlice0 el29) rfl rfl ?_
  rintro _ w10_ ⟨b10_, rfl, hb10_, hB10_, hF10_⟩
  have ho10_ : OwnS w.heap.size 5 Gh.no H4_ _ (some ⟨b10_, 0, none⟩) 0 ([] : List UInt8) := OwnS.ofBlk hI.st hb10_ hB10_ (all2_sc' _) rfl (by have := hI.size; omega) (by show 0 ≤ maxLen; decide)
  replace hI := hI.fr0 hF10_
  clear hF10_ hB10_
  refine Ops_step (R_move rfl) rfl rfl (Ops_step (R_move rfl) rfl rfl ?_)
  exact h.elim

theorem journal_book_add_v2_ok {G : Gh} {w : World} (hS : St G w) (hg : GL G) {d0 : Nat} {z0 : journal_Journal} {Ad0_1 : Option Addr} {cd0_1 : Nat} {d1 : Nat} {z1 : List (Int × Int)} (htd1 : MTok G G w d1 z1) (htd0 : Tok G w d0 46 ([.slice Ad0_1 z0.book_.l_.length cd0_1, .map (some d1), .pointer none, vi z0.gen_, vi z0.place_])) (hcd0_1 : z0.book_.l_.length ≤ cd0_1) (hsd0_1 : Sl G Ad0_1 z0.book_.l_) {l1 : List Value} {x1 : journal_record} (hr1 : Rp.cs G x1 l1) {Q : journal_Journal → (List (Int × Int)) → Prop} (h : journal_book_add_v2 z0 z1 x1 Q) : Calls Try.prog 43 #[.pointer (some ⟨d0, 0 + 0, none⟩), .agg l1.toArray] w fun e w2 => ∃ (y0 : journal_Journal) (Ay0_1 : Option Addr) (cy0_1 : Nat) (y1 : List (Int × Int)) (L H : Gh), e = .returned (.tuple #[]) ∧ Inv [d0, d1] G w L H w2 ∧ Tok H w2 d0 46 ([.slice Ay0_1 y0.book_.l_.length cy0_1, .map (some d1), .pointer none, vi y0.gen_, vi y0.place_]) ∧ y0.book_.l_.length ≤ cy0_1 ∧ Sl H Ay0_1 y0.book_.l_ ∧ MTok H H w2 d1 y1 ∧ Q y0 y1 := by
 unfold journal_book_add_v2 at h
 have hI := Inv.start (M := [d0, d1]) hS
 refine calls_W 36 Try.func43 rfl Try.ntmps43 rfl [] rfl ?_
 obtain ⟨A1_1, c1_1, rfl, ⟨hc1_1, hs1_1⟩⟩ := hr1
 have hlt_d0 := htd0.blk.lt
 have hlt_d1 := htd1.lt
 refine W_seq_k fun K1 k1 => ?_
 refine W_region [3] rfl ?_
 have hI0_ := hI
 refine Ops_to (R_box rfl) rfl rfl ?_
 rintro _ w2_ ⟨b2_, rfl, hb2_, hB2_, hF2_⟩
 replace hI := hI.fr0 hF2_
 replace htd1 := htd1.fr0 hF2_
 replace htd0 := htd0.fr0 hF2_
 have ht2_ : Tok G _ b2_ 85 ([vi x1.label_, .slice A1_1 x1.data_.length c1_1]) := ⟨hB2_.to rfl, Out.ge hI0_.st (Nat.le_of_eq hb2_.symm)⟩
 have hge_b2_ : w.heap.size ≤ b2_ := hb2_ ▸ hI0_.size
 clear hB2_ hb2_ hI0_ hF2_
 refine Ops_nil ?_
 refine then_n (k1 _ _ ?_)
 clear k1 K1
 refine W_seq_k fun K3 k3 => ?_
 refine W_drawF [4, 5, 6, 7, 8, 9, 10, 11, 12, 13, 14, 15, 16, 17, 18, 19, 20, 21, 22, 23, 24, none] [(0, true), (1, true), (2, true), (3, true), (4, true), (5, true), (6, true), (7, true), (8, true), (9, true), (10, true), (11, true), (12, true), (13, true), (14, true), (15, true), (16, true), (17, false), (18, false), (19, true), (20, true), (21, false)] TJtK.hm rfl (by kernel_rfl) fun ops4_ w4_ hops4_ hF4_ => ?_
 replace hI := hI.fr0 hF4_
 replace htd1 := htd1.fr0 hF4_
 replace htd0 := htd0.fr0 hF4_
 replace ht2_ := ht2_.fr0 hF4_
 clear hF4_
 refine HSp (R_move rfl) rfl rfl (HSp (R_move rfl) rfl rfl (HSp (R_nilCheck rfl) rfl rfl (HSp (R_fieldAddr fo44_0 rfl) rfl rfl ?_)))
 refine HS_loadB (v := .slice Ad0_1 z0.book_.l_.length cd0_1) ag41 rfl htd0.blk rfl rfl rfl ?_
 refine HSp (R_move rfl) rfl rfl (HSp (R_nilCheck rfl) rfl rfl (HSp (R_fieldAddr fo44_0 rfl) rfl rfl ?_))
 refine HS_loadB (v := .slice Ad0_1 z0.book_.l_.length cd0_1) ag41 rfl htd0.blk rfl rfl rfl ?_
 refine HSp (R_len Try.underlying41 rfl rfl) rfl rfl (HSp (R_move rfl) rfl rfl (HSp (R_nilCheck rfl) rfl rfl (HSp (R_fieldAddr fo44_0 rfl) rfl rfl ?_)))
 refine HS_loadB (v := .slice Ad0_1 z0.book_.l_.length cd0_1) ag41 rfl htd0.blk rfl rfl rfl ?_
 refine HSp (R_len Try.underlying41 rfl rfl) rfl rfl ?_
 have hk6_ := h.1
 replace h := h.2
 refine Exists.elim (cut_ex3 (n := 2) hsd0_1 rfl (by decide) (Int.le_refl 0) hk6_ (Int.le_refl _)) fun A5_ h5_ => ?_
 have hr5_ := h5_.1
 have hs5_ := h5_.2
 clear h5_
 refine HSp (X_slice3 (xs := z0.book_.l_) Try.underlying41 sz85 rfl hr5_ hcd0_1 rfl rfl rfl (Int.le_refl 0) hk6_ (Int.le_refl _)) rfl rfl ?_
 clear hr5_
 refine HS_loadN ag85 sz85 rfl ht2_.blk (Nat.le_of_ble_eq_true rfl) rfl rfl ?_
 have hlo7_b2_ := ht2_.blk.lt
 refine HS_to [13, 8, 4] _ rfl (by rw [hops4_]; kernel_rfl) (R_buildSlice el41 zr85 (by decide) (by decide) rfl rfl) rfl rfl ?_
 rintro _ w7_ ⟨b7_, rfl, hb7_, hB7_, hF7_⟩
 have ho7_ : OwnS w.heap.size 85 G G _ (some ⟨b7_, 0, none⟩) 1 ([x1] : List journal_record) := OwnS.ofBlk (css := [[vi x1.label_, .slice A1_1 x1.data_.length c1_1]]) hI.st hb7_ hB7_ (.cons ⟨A1_1, c1_1, rfl, ⟨hc1_1, hs1_1⟩⟩ .nil) rfl (by have := hI.size; omega) (by show 1 ≤ maxLen; decide)
 replace hI := hI.fr0 hF7_
 replace htd1 := htd1.fr0 hF7_
 replace htd0 := htd0.fr0 hF7_
 replace ht2_ := ht2_.fr0 hF7_
 clear hF7_ hB7_
 have hsq7_b2_ : ∀ i_ ∈ bk (some ⟨b7_, 0, none⟩) 1, i_ ∉ [b2_] := fun i_ hi_ hm_ => by have h_ := (fun i_ hi_ => by have := (bk_of hi_).1; simp only [blkOf, List.mem_singleton] at this; omega) i_ hi_; rw [List.mem_singleton] at hm_; omega
 refine ⟨⟨(htd0.blk.at_ rfl), (htd0.blk.at_ rfl), (htd0.blk.at_ rfl), trivial⟩, ?_⟩
 have hk9_ := h.1
 replace h := h.2
 have hlo8_b2_ := ht2_.blk.lt
 refine HS_to [] _ rfl (by rw [hops4_]; kernel_rfl) (X_appendTight (α := journal_record) (xs := (cut z0.book_.l_ 0 (z0.book_.l_.length : Int))) (ys := ([x1] : List journal_record)) (B := _) el41 rfl rfl rfl hs5_ (Srcs.ofOwn Try.underlying41 ho7_ (by decide)) (by show 0 < 1; decide) hI.st hI.st hk9_ (by decide) (Nat.le_refl _)) rfl rfl ?_
 rintro _ w8_ ⟨A8_, c8_, rfl, ho8_, hF8_⟩
 have hsq8_b2_ : ∀ i_ ∈ bk A8_ c8_, i_ ∉ [b2_] := fun i_ hi_ hm_ => by have h_ := ho8_.off i_ hi_; rw [List.mem_singleton] at hm_; omega
 replace ho8_ := ho8_.le hI.size
 replace hI := hI.fr0 hF8_
 replace htd1 := htd1.fr0 hF8_
 replace htd0 := htd0.fr0 hF8_
 replace ht2_ := ht2_.fr0 hF8_
 clear hF8_
 refine ⟨trivial, ?_⟩
 refine HSp (R_nilCheck rfl) rfl rfl (HSp (R_fieldAddr fo44_0 rfl) rfl rfl ?_)
 refine Exists.elim (ho8_.freeze hI) fun L11_ h11_ => Exists.elim h11_ fun H11_ h11_ => ?_
 replace hI := h11_.1
 have u11_ := h11_.2.1
 have hs11_ := h11_.2.2.2 (Le.refl _)
 have hc11_ := ho8_.cap
 replace hsd0_1 := hsd0_1.up u11_.hh
 replace htd1 := htd1.up u11_.hh u11_ (ho8_.old hlt_d1)
 replace htd0 := htd0.up u11_ (ho8_.old hlt_d0)
 replace hs1_1 := hs1_1.up u11_.hh
 replace ht2_ := ht2_.up u11_ (sep_tok hsq8_b2_)
 clear h11_ u11_ ho8_
 refine HS_to0 [] _ rfl (by rw [hops4_]; kernel_rfl) (R_store sz41 rfl rfl htd0.blk (by show 0 < 5; decide) rfl) rfl ?_
 rintro _ w10_ ⟨hB10_, hF10_⟩
 replace hI := hI.tok hF10_ (out1 htd0.out) (mem1 (by simp))
 replace htd1 := htd1.fr hF10_ (htd1.neT htd0)
 replace ht2_ := ht2_.fr hF10_ (ht2_.apart htd0 (by decide))
 replace htd0 : Tok H11_ _ d0 46 ([.slice A8_ (((cut z0.book_.l_ 0 (z0.book_.l_.length : Int)) ++ ([x1] : List journal_record)).length) c8_, .map (some d1), .pointer none, vi z0.gen_, vi z0.place_]) := ⟨hB10_, htd0.out⟩
 clear hF10_ hB10_
 refine ⟨trivial, ?_⟩
 refine HS_nil ?_
 clear hops4_
 refine then_n (k3 _ _ ?_)
 clear k3 K3
 refine W_keepB [0, 3] fun B_ b_ => ?_
 simp only [e_, Nat.reduceAdd, Nat.reduceBEq] at b_
 subst b_
 refine W_drawF [25, 26, 27, 28, 29, 30, 31, 32, 33, 34, 35, none] [(0, true), (1, true), (2, true), (3, true), (4, true), (5, true), (7, true), (8, true), (9, true), (6, false), (10, true), (11, false)] TJtK.hm rfl (by kernel_rfl) fun ops13_ w13_ hops13_ hF13_ => ?_
 replace hI := hI.fr0 hF13_
 replace htd1 := htd1.fr0 hF13_
 replace htd0 := htd0.fr0 hF13_
 replace ht2_ := ht2_.fr0 hF13_
 clear hF13_
 refine HSp (R_move rfl) rfl rfl (HSp (R_nilCheck rfl) rfl rfl (HSp (R_fieldAddr fo44_1 rfl) rfl rfl ?_))
 refine HS_loadB (v := .map (some d1)) ag42 rfl htd0.blk rfl rfl rfl ?_
 refine HSp (R_fieldAddr fo85_0 rfl) rfl rfl ?_
 refine HS_loadB (v := vi x1.label_) ag3 rfl ht2_.blk rfl rfl rfl ?_
 refine HSp (R_fieldAddr fo85_1 rfl) rfl rfl ?_
 refine HS_loadB (v := .slice A1_1 x1.data_.length c1_1) ag29 rfl ht2_.blk rfl rfl rfl ?_
 refine HSp (R_len Try.underlying29 rfl rfl) rfl rfl ?_
 refine HS_to [8] _ rfl (by rw [hops13_]; kernel_rfl) (Runs.to (R_lookup (z0 := (0 : Int)) Try.underlying42 Try.underlying3 zv3 rfl rfl htd1)) rfl rfl ?_
 rintro _ wq14_ ⟨rfl, hq14_⟩
 replace hq14_ := hq14_.symm
 subst hq14_
 refine ⟨⟨(ht2_.blk.at_ rfl), trivial⟩, ?_⟩
 have hk15_ := h.1
 replace h := h.2
 refine HSp (R_add rfl rfl (wI hk15_.1 hk15_.2)) rfl rfl ?_
 refine HS_to0 [] _ rfl (by rw [hops13_]; kernel_rfl) (R_mapUpdate (v := (((mget z1 x1.label_).getD 0) + (x1.data_.length : Int))) Try.underlying42 Try.underlying3 rfl rfl rfl rfl htd1) rfl ?_
 rintro _ w16_ ⟨hB16_, hF16_⟩
 replace hI := hI.tok hF16_ (out1 htd1.out) (mem1 (by simp))
 replace htd0 := htd0.fr hF16_ (htd0.neM htd1)
 replace ht2_ := ht2_.fr hF16_ (ht2_.neM htd1)
 replace htd1 := hB16_
 clear hF16_ hB16_
 refine ⟨trivial, ?_⟩
 refine HS_nil ?_
 clear hops13_
 refine ⟨_, rfl, ?_⟩
 exact ⟨(journal_Journal.mk (journal_book.mk ((cut z0.book_.l_ 0 (z0.book_.l_.length : Int)) ++ ([x1] : List journal_record))) z0.gen_ z0.place_), A8_, c8_, (mput z1 x1.label_ (((mget z1 x1.label_).getD 0) + (x1.data_.length : Int))), _, _, rfl, hI, htd0, hc11_, hs11_, htd1, h⟩

theorem journal_Open_2_v1_ok {G : Gh} {w : World} (hS : St G w) (hg : GL G) {x0 : Int} {x1 : Int} {d0 : Nat} {z0 : List journal_record} {Ad0_1 : Option Addr} {cd0_1 : Nat} (htd0 : Tok G w d0 41 ([.slice Ad0_1 z0.length cd0_1])) (hcd0_1 : z0.length ≤ cd0_1) (hsd0_1 : Sl G Ad0_1 z0) {d1 : Nat} {z1 : Unit} {d2 : Nat} {z2 : journal_Journal} {Ad2_1 : Option Addr} {cd2_1 : Nat} {d3 : Nat} {z3 : List (Int × Int)} (htd3 : MTok G G w d3 z3) (htd2 : Tok G w d2 46 ([.slice Ad2_1 z2.book_.l_.length cd2_1, .map (some d3), .pointer none, vi z2.gen_, vi z2.place_])) (hcd2_1 : z2.book_.l_.length ≤ cd2_1) (hsd2_1 : Sl G Ad2_1 z2.book_.l_) (htd1 : Tok G w d1 26 ([.pointer (some ⟨d2, 0, none⟩)])) {Q : Int → Bool → Prop} (h : journal_Open_2_v1 x0 x1 z0 z1 z2 z3 Q) : Calls Try.prog 47 #[vi x0, vi x1, .pointer (some ⟨d0, 0, none⟩), .pointer (some ⟨d1, 0, none⟩)] w fun e w2 => ∃ (r0 : Int) (r1 : Bool) (L H : Gh), e = .returned (.tuple #[vi r0, .bool r1]) ∧ Inv [] G w L H w2 ∧ Q r0 r1 := by
 unfold journal_Open_2_v1 at h
 have hI := Inv.start (M := []) hS
 refine calls_W 22 Try.func47 rfl Try.ntmps47 rfl [.tmp 6, .tmp 7] rfl ?_
 have hlt_d0 := htd0.blk.lt
 have hlt_d1 := htd1.blk.lt
 have hlt_d2 := htd2.blk.lt
 have hlt_d3 := htd3.lt
 refine W_seq_k fun K1 k1 => ?_
 refine W_region [6, 7] rfl (Ops_step (R_assign rfl) rfl rfl (Ops_step (R_assign rfl) rfl rfl ?_))
 refine Ops_nil ?_
 refine then_n (k1 _ _ ?_)
 clear k1 K1
 refine W_seq_k fun K2 k2 => ?_
 refine W_drawF [8, 9, 10, 11, 12, 13, 14, 15, 16, 17, 18, 19, 20, 21, 6, 7] [(0, true), (1, true), (2, true), (3, true), (4, true), (5, true), (6, true), (7, true), (8, true), (9, true), (10, true), (11, true), (12, true), (13, true), (14, true), (15, true)] TJtK.hm rfl (by kernel_rfl) fun ops3_ w3_ hops3_ hF3_ => ?_
 replace hI := hI.fr0 hF3_
 replace htd0 := htd0.fr0 hF3_
 replace htd3 := htd3.fr0 hF3_
 replace htd2 := htd2.fr0 hF3_
 replace htd1 := htd1.fr0 hF3_
 clear hF3_
 refine HS_loadB (v := .slice Ad0_1 z0.length cd0_1) ag41 rfl htd0.blk rfl rfl rfl ?_
 refine HSp (R_len Try.underlying41 rfl rfl) rfl rfl (HSp (R_move rfl) rfl rfl ?_)
 refine HS_loadB (v := .pointer (some ⟨d2, 0, none⟩)) ag26 rfl htd1.blk rfl rfl rfl ?_
 refine HSp (R_nilCheck rfl) rfl rfl (HSp (R_fieldAddr fo46_2 rfl) rfl rfl ?_)
 refine HS_loadB (v := vi z2.gen_) ag3 rfl htd2.blk rfl rfl rfl ?_
 refine HSp (R_eql rfl rfl) rfl rfl (HSp (R_move rfl) rfl rfl ?_)
 refine HS_split 16 rfl (fun hg4_ => ?_) (fun hg4_ => ?_)
 ·
  replace h := h.1 hg4_
  refine HSp (R_move rfl) rfl rfl ?_
  refine HS_loadB (v := .slice Ad0_1 z0.length cd0_1) ag41 rfl htd0.blk rfl rfl rfl ?_
  refine HSp (R_len Try.underlying41 rfl rfl) rfl rfl (HSp (R_eql rfl rfl) rfl rfl (HSp (R_pick_true rfl rfl) rfl rfl (HSp (R_assign rfl) rfl rfl (HSp (R_assign rfl) rfl rfl ?_))))
  refine HS_nil ?_
  clear hops3_
  refine then_n (k2 _ _ ?_)
  clear k2 K2
  refine W_keepB [6, 7] fun B_ b_ => ?_
  simp only [e_, Nat.reduceAdd, Nat.reduceBEq] at b_
  subst b_
  refine W_ret ?_
  refine ⟨_, ⟨_, _, rfl, rfl, ⟨_, _, rfl, rfl, rfl⟩⟩, ?_⟩
  exact ⟨(z0.length : Int), (decide (x1 = (z0.length : Int))), _, _, rfl, hI, h⟩
 ·
  replace h := h.2 hg4_
  refine HS_pass rfl rfl ?_
  refine HS_pass rfl rfl ?_
  refine HS_pass rfl rfl ?_
  refine HS_pass rfl rfl ?_
  refine HSp (R_pick_false rfl rfl) rfl rfl (HSp (R_assign rfl) rfl rfl (HSp (R_assign rfl) rfl rfl ?_))
  refine HS_nil ?_
  clear hops3_
  refine then_n (k2 _ _ ?_)
  clear k2 K2
  refine W_keepB [6, 7] fun B_ b_ => ?_
  simp only [e_, Nat.reduceAdd, Nat.reduceBEq] at b_
  subst b_
  refine W_ret ?_
  refine ⟨_, ⟨_, _, rfl, rfl, ⟨_, _, rfl, rfl, rfl⟩⟩, ?_⟩
  exact ⟨(z0.length : Int), false, _, _, rfl, hI, h⟩

theorem journal_opened_v2_ok {G : Gh} {w : World} (hS : St G w) (hg : GL G) {A0 : Option Addr} {c0 : Nat} {x0 : List UInt8} (hc0 : x0.length ≤ c0) (hs0 : Sl G A0 x0) {d0 : Nat} {z0 : List journal_record} {Ad0_1 : Option Addr} {cd0_1 : Nat} (htd0 : Tok G w d0 41 ([.slice Ad0_1 z0.length cd0_1])) (hcd0_1 : z0.length ≤ cd0_1) (hsd0_1 : Sl G Ad0_1 z0) {d1 : Nat} {z1 : Unit} {d2 : Nat} {z2 : journal_Journal} {Ad2_1 : Option Addr} {cd2_1 : Nat} {d3 : Nat} {z3 : List (Int × Int)} (htd3 : MTok G G w d3 z3) (htd2 : Tok G w d2 46 ([.slice Ad2_1 z2.book_.l_.length cd2_1, .map (some d3), .pointer none, vi z2.gen_, vi z2.place_])) (hcd2_1 : z2.book_.l_.length ≤ cd2_1) (hsd2_1 : Sl G Ad2_1 z2.book_.l_) (htd1 : Tok G w d1 26 ([.pointer (some ⟨d2, 0, none⟩)])) {Q : Int → Int → (List journal_record) → Bool → Bool → Prop} (h : journal_opened_v2 x0 z0 z1 z2 z3 Q) : Calls Try.prog 45 #[.slice A0 x0.length c0, .func (.func 47) #[] #[.pointer (some ⟨d0, 0, none⟩), .pointer (some ⟨d1, 0, none⟩)]] w fun e w2 => ∃ (r0 : Int) (r1 : Int) (A2 : Option Addr) (c2 : Nat) (r2 : List journal_record) (r3 : Bool) (r4 : Bool) (L H : Gh), e = .returned (.tuple #[vi r0, vi r1, .slice A2 r2.length c2, .bool r3, .bool r4]) ∧ Inv [] G w L H w2 ∧ OwnS w.heap.size 85 L H w2 A2 c2 r2 ∧ Q r0 r1 r2 r3 r4 := by
 unfold journal_opened_v2 at h
 have hI := Inv.start (M := []) hS
 refine calls_W 78 Try.func45 rfl Try.ntmps45 rfl [.tmp 4, .tmp 5, .tmp 6, .tmp 7, .tmp 8] rfl ?_
 have hlt_d0 := htd0.blk.lt
 have hlt_d1 := htd1.blk.lt
 have hlt_d2 := htd2.blk.lt
 have hlt_d3 := htd3.lt
 refine W_seq_k fun K1 k1 => ?_
 refine W_region [4, 5, 6, 7, 8] rfl (Ops_step (R_assign rfl) rfl rfl (Ops_step (R_assign rfl) rfl rfl (Ops_step (R_assign rfl) rfl rfl (Ops_step (R_assign rfl) rfl rfl ?_))))
 refine Ops_step (R_assign rfl) rfl rfl ?_
 refine Ops_nil ?_
 refine then_n (k1 _ _ ?_)
 clear k1 K1
 refine W_seq_k fun K2 k2 => ?_
 refine W_region [18, 19, 17, 20, 21, 9, 10] rfl (Ops_step (R_move rfl) rfl rfl ?_)
 refine Ops_call (C_func bd66 rfl) rfl rfl ?_
 refine (octet_All_ok (x0 := x0) hI.st (hg.up hI.le) hc0 hs0 h).mono ?_
 rintro _ w3_ ⟨A3_0, c3_0, r3_0, r3_1, L3_, H3_, rfl, hI3_, ho3_0, h⟩
 refine Exists.elim (hI.call hI3_ (by simp)) fun L30_ h3_ => ?_
 have hz3_ := hI.size
 replace hI := h3_.1
 have u3_ := h3_.2.1
 have hl3_ := h3_.2.2
 clear h3_
 replace hs0 := hs0.up u3_.hh
 replace hsd0_1 := hsd0_1.up u3_.hh
 replace htd0 := htd0.up u3_ (by simp)
 replace hsd2_1 := hsd2_1.up u3_.hh
 replace htd3 := htd3.up u3_.hh u3_ (by simp)
 replace htd2 := htd2.up u3_ (by simp)
 replace htd1 := htd1.up u3_ (by simp)
 replace ho3_0 := OwnS.back ho3_0 hz3_ hl3_ (Le.refl _)
 clear hI3_ u3_ hl3_
 refine ⟨_, rfl, ?_⟩
 refine Exists.elim (ho3_0.freeze hI) fun L4_ h4_ => Exists.elim h4_ fun H4_ h4_ => ?_
 replace hI := h4_.1
 have u4_ := h4_.2.1
 have hs4_ := h4_.2.2.1 (Le.refl _)
 have hc4_ := ho3_0.cap
 replace hs0 := hs0.up u4_.hh
 replace hsd0_1 := hsd0_1.up u4_.hh
 replace htd0 := htd0.up u4_ (ho3_0.old hlt_d0)
 replace hsd2_1 := hsd2_1.up u4_.hh
 replace htd3 := htd3.up u4_.hh u4_ (ho3_0.old hlt_d3)
 replace htd2 := htd2.up u4_ (ho3_0.old hlt_d2)
 replace htd1 := htd1.up u4_ (ho3_0.old hlt_d1)
 clear h4_ u4_ ho3_0
 refine Ops_step (R_move rfl) rfl rfl ?_
 refine Ops_step (R_extract (v := .slice A3_0 r3_0.length c3_0) rfl rfl) rfl rfl ?_
 refine Ops_step (R_extract (v := vi r3_1) rfl rfl) rfl rfl ?_
 refine Ops_step (R_assign rfl) rfl rfl (Ops_step (R_assign rfl) rfl rfl ?_)
 refine Ops_nil ?_
 refine then_n (k2 _ _ ?_)
 clear k2 K2
 refine W_keepB [0, 1, 6, 9, 10] fun B_ b_ => ?_
 simp only [e_, Nat.reduceAdd, Nat.reduceBEq] at b_
 subst b_
 refine W_seq_k fun K6 k6 => ?_
 refine W_seq_k fun K7 k7 => ?_
 refine W_region [22, 23, 24] rfl (Ops_step (R_move rfl) rfl rfl (Ops_step (R_len Try.underlying67 rfl rfl) rfl rfl (Ops_step (R_eql rfl rfl) rfl rfl ?_)))
 refine Ops_nil ?_
 refine then_n (k7 _ _ ?_)
 clear k7 K7
 refine W_if rfl (fun hc8_ => ?_) (fun hc8_ => ?_)
 ·
  replace h := h.1 hc8_
  refine W_seq_k fun K9 k9 => ?_
  refine W_region [4, 5, 6, 7, 8] rfl (Ops_step (R_assign rfl) rfl rfl (Ops_step (R_assign rfl) rfl rfl (Ops_step (R_assign rfl) rfl rfl (Ops_step (R_assign rfl) rfl rfl ?_))))
  refine Ops_step (R_assign rfl) rfl rfl ?_
  refine Ops_nil ?_
  refine then_n (k9 _ _ ?_)
  clear k9 K9
  refine W_keepB [4, 5, 6, 7, 8] fun B_ b_ => ?_
  simp only [e_, Nat.reduceAdd, Nat.reduceBEq] at b_
  subst b_
  refine W_ret ?_
  refine then_ret ?_
  clear k6 K6
  refine ⟨_, ⟨_, _, rfl, rfl, ⟨_, _, rfl, rfl, ⟨_, _, rfl, rfl, ⟨_, _, rfl, rfl, ⟨_, _, rfl, rfl, rfl⟩⟩⟩⟩⟩, ?_⟩
  exact ⟨0, 0, none, 0, [], false, false, _, _, rfl, hI, OwnS.nil, h⟩
 ·
  replace h := h.2 hc8_
  refine W_skip ?_
  refine then_n (k6 _ _ ?_)
  clear k6 K6
  refine W_seq_k fun K11 k11 => ?_
  refine W_region [25, 26, 27, 28, 11] rfl (Ops_step (R_move rfl) rfl rfl ?_)
  refine ex_ h fun x12_ hx12_ h => ?_
  have ha12_ := ((hs4_.up hI.sub).atL hx12_).1
  refine Exists.elim ((hs4_.up hI.sub).atL hx12_).2 fun A12_ hA12_ => Exists.elim hA12_ fun c12_ hA12_ => ?_
  have hc12_ := hA12_.1
  have hs12_ := hA12_.2.1
  have hg12_ := hA12_.2.2
  clear hA12_
  refine Ops_step (R_indexSl Try.underlying67 sz29 rfl rfl hx12_.1 hx12_.lt ha12_) rfl rfl (Ops_step (R_load ag29 rfl (hI.st _ _ hg12_)) rfl rfl ?_)
  refine Ops_call (C_func bd67 rfl) rfl rfl ?_
  refine (octet_Read_ok (x0 := x12_) hI.st (hg.up hI.le) hc12_ hs12_ h).mono ?_
  rintro _ w13_ ⟨o0_13, y13_o0, A13_o0_1, c13_o0_1, L13_, H13_, rfl, hI13_, hge_o0_13, ht13_o0, hc13_o0_1, hs13_o0_1, h⟩
  have hge0_o0_13 := hge_o0_13
  replace hge_o0_13 := Nat.le_trans hI.size hge_o0_13
  refine Exists.elim (hI.call hI13_ (by simp)) fun L130_ h13_ => ?_
  have hz13_ := hI.size
  replace hI := h13_.1
  have u13_ := h13_.2.1
  have hl13_ := h13_.2.2
  clear h13_
  replace hs0 := hs0.up u13_.hh
  replace hsd0_1 := hsd0_1.up u13_.hh
  replace htd0 := htd0.up u13_ (by simp)
  replace hsd2_1 := hsd2_1.up u13_.hh
  replace htd3 := htd3.up u13_.hh u13_ (by simp)
  replace htd2 := htd2.up u13_ (by simp)
  replace htd1 := htd1.up u13_ (by simp)
  replace hs4_ := hs4_.up u13_.ll
  replace hg12_ := u13_.hh _ _ hg12_
  clear hI13_ u13_ hl13_
  refine ⟨_, rfl, ?_⟩
  refine Ops_step (R_assign rfl) rfl rfl ?_
  refine Ops_nil ?_
  refine then_n (k11 _ _ ?_)
  clear k11 K11
  refine W_keepB [0, 1, 6, 9, 10, 11] fun B_ b_ => ?_
  simp only [e_, Nat.reduceAdd, Nat.reduceBEq] at b_
  subst b_
  refine W_seq_k fun K15 k15 => ?_
  refine W_region [29, 30, 31, 32, 4, 5] rfl (Ops_step (R_move rfl) rfl rfl ?_)
  refine Ops_call (C_func bd68 rfl) rfl rfl ?_
  refine (octet_Reader_Within_ok (x1 := 1) (x2 := 1099511627776) (z0 := y13_o0) hI.st (hg.up hI.le) ht13_o0 hc13_o0_1 hs13_o0_1 h).mono ?_
  rintro _ w16_ ⟨r16_0, y16_o0, A16_o0_1, c16_o0_1, L16_, H16_, rfl, hI16_, ht16_o0, hc16_o0_1, hs16_o0_1, h⟩
  refine Exists.elim (hI.call hI16_ (new1 hge_o0_13)) fun L160_ h16_ => ?_
  have hz16_ := hI.size
  replace hI := h16_.1
  have u16_ := h16_.2.1
  have hl16_ := h16_.2.2
  clear h16_
  replace hs0 := hs0.up u16_.hh
  replace hsd0_1 := hsd0_1.up u16_.hh
  replace htd0 := htd0.up u16_ (htd0.apart ht13_o0 (by decide))
  replace hsd2_1 := hsd2_1.up u16_.hh
  replace htd3 := htd3.up u16_.hh u16_ (htd3.neT ht13_o0)
  replace htd2 := htd2.up u16_ (htd2.apart ht13_o0 (by decide))
  replace htd1 := htd1.up u16_ (htd1.apart ht13_o0 (by decide))
  replace hs4_ := hs4_.up u16_.ll
  replace hs13_o0_1 := hs13_o0_1.up u16_.hh
  clear ht13_o0
  clear hI16_ u16_ hl16_
  refine ⟨_, rfl, ?_⟩
  refine Ops_step (R_move rfl) rfl rfl ?_
  refine Ops_call (C_func bd68 rfl) rfl rfl ?_
  refine (octet_Reader_Within_ok (x1 := 0) (x2 := 1099511627776) (z0 := y16_o0) hI.st (hg.up hI.le) ht16_o0 hc16_o0_1 hs16_o0_1 h).mono ?_
  rintro _ w17_ ⟨r17_0, y17_o0, A17_o0_1, c17_o0_1, L17_, H17_, rfl, hI17_, ht17_o0, hc17_o0_1, hs17_o0_1, h⟩
  refine Exists.elim (hI.call hI17_ (new1 hge_o0_13)) fun L170_ h17_ => ?_
  have hz17_ := hI.size
  replace hI := h17_.1
  have u17_ := h17_.2.1
  have hl17_ := h17_.2.2
  clear h17_
  replace hs0 := hs0.up u17_.hh
  replace hsd0_1 := hsd0_1.up u17_.hh
  replace htd0 := htd0.up u17_ (htd0.apart ht16_o0 (by decide))
  replace hsd2_1 := hsd2_1.up u17_.hh
  replace htd3 := htd3.up u17_.hh u17_ (htd3.neT ht16_o0)
  replace htd2 := htd2.up u17_ (htd2.apart ht16_o0 (by decide))
  replace htd1 := htd1.up u17_ (htd1.apart ht16_o0 (by decide))
  replace hs4_ := hs4_.up u17_.ll
  replace hs16_o0_1 := hs16_o0_1.up u17_.hh
  clear ht16_o0
  clear hI17_ u17_ hl17_
  refine ⟨_, rfl, ?_⟩
  refine Ops_step (R_assign rfl) rfl rfl (Ops_step (R_assign rfl) rfl rfl ?_)
  refine Ops_nil ?_
  refine then_n (k15 _ _ ?_)
  clear k15 K15
  refine W_seq_k fun K18 k18 => ?_
  refine W_seq_k fun K19 k19 => ?_
  refine W_region [33, 34, 35] rfl (Ops_step (R_move rfl) rfl rfl ?_)
  refine Ops_call (C_func bd69 rfl) rfl rfl ?_
  refine (octet_Reader_End_ok (z0 := y17_o0) hI.st (hg.up hI.le) ht17_o0 hc17_o0_1 hs17_o0_1 h).mono ?_
  rintro _ w20_ ⟨r20_0, L20_, H20_, rfl, hI20_, h⟩
  refine Exists.elim (hI.call hI20_ (by simp)) fun L200_ h20_ => ?_
  have hz20_ := hI.size
  replace hI := h20_.1
  have u20_ := h20_.2.1
  have hl20_ := h20_.2.2
  clear h20_
  replace hs0 := hs0.up u20_.hh
  replace hsd0_1 := hsd0_1.up u20_.hh
  replace htd0 := htd0.up u20_ (by simp)
  replace hsd2_1 := hsd2_1.up u20_.hh
  replace htd3 := htd3.up u20_.hh u20_ (by simp)
  replace htd2 := htd2.up u20_ (by simp)
  replace htd1 := htd1.up u20_ (by simp)
  replace hs4_ := hs4_.up u20_.ll
  replace ht17_o0 := ht17_o0.up u20_ (by simp)
  replace hs17_o0_1 := hs17_o0_1.up u20_.hh
  clear hI20_ u20_ hl20_
  refine ⟨_, rfl, ?_⟩
  refine Ops_step (R_neq rfl rfl) rfl rfl ?_
  refine Ops_nil ?_
  refine then_n (k19 _ _ ?_)
  clear k19 K19
  refine W_keepB [0, 1, 4, 5, 6, 9, 10, 35] fun B_ b_ => ?_
  simp only [e_, Nat.reduceAdd, Nat.reduceBEq] at b_
  subst b_
  refine W_if rfl (fun hc22_ => ?_) (fun hc22_ => ?_)
  ·
   replace h := h.1 hc22_
   refine W_seq_k fun K23 k23 => ?_
   refine W_region [4, 5, 6, 7, 8] rfl (Ops_step (R_assign rfl) rfl rfl (Ops_step (R_assign rfl) rfl rfl (Ops_step (R_assign rfl) rfl rfl (Ops_step (R_assign rfl) rfl rfl ?_))))
   refine Ops_step (R_assign rfl) rfl rfl ?_
   refine Ops_nil ?_
   refine then_n (k23 _ _ ?_)
   clear k23 K23
   refine W_ret ?_
   refine then_ret ?_
   clear k18 K18
   refine ⟨_, ⟨_, _, rfl, rfl, ⟨_, _, rfl, rfl, ⟨_, _, rfl, rfl, ⟨_, _, rfl, rfl, ⟨_, _, rfl, rfl, rfl⟩⟩⟩⟩⟩, ?_⟩
   exact ⟨0, 0, none, 0, [], false, false, _, _, rfl, hI, OwnS.nil, h⟩
  ·
   replace h := h.2 hc22_
   refine W_skip ?_
   refine then_n (k18 _ _ ?_)
   clear k18 K18
   refine W_seq_k fun K24 k24 => ?_
   refine W_region [37, 38, 39, 40, 36, 41, 42, 12, 8] rfl (Ops_step (R_move rfl) rfl rfl (Ops_step (R_move rfl) rfl rfl (Ops_step (R_move rfl) rfl rfl ?_)))
   refine Ops_call (C_val bd47 rfl rfl) rfl rfl ?_
   refine (journal_Open_2_v1_ok (x0 := r16_0) (x1 := r17_0) (z0 := z0) (z1 := ()) (z2 := z2) (z3 := z3) hI.st (hg.up hI.le) htd0 hcd0_1 hsd0_1 htd3 htd2 hcd2_1 hsd2_1 htd1 h).mono ?_
   rintro _ w25_ ⟨r25_0, r25_1, L25_, H25_, rfl, hI25_, h⟩
   refine Exists.elim (hI.call hI25_ (by simp)) fun L250_ h25_ => ?_
   have hz25_ := hI.size
   replace hI := h25_.1
   have u25_ := h25_.2.1
   have hl25_ := h25_.2.2
   clear h25_
   replace hs0 := hs0.up u25_.hh
   replace hsd0_1 := hsd0_1.up u25_.hh
   replace htd0 := htd0.up u25_ (by simp)
   replace hsd2_1 := hsd2_1.up u25_.hh
   replace htd3 := htd3.up u25_.hh u25_ (by simp)
   replace htd2 := htd2.up u25_ (by simp)
   replace htd1 := htd1.up u25_ (by simp)
   replace hs4_ := hs4_.up u25_.ll
   clear hI25_ u25_ hl25_
   refine ⟨_, rfl, ?_⟩
   refine Ops_step (R_move rfl) rfl rfl ?_
   refine Ops_step (R_extract (v := vi r25_0) rfl rfl) rfl rfl ?_
   refine Ops_step (R_extract (v := .bool r25_1) rfl rfl) rfl rfl ?_
   refine Ops_step (R_assign rfl) rfl rfl (Ops_step (R_assign rfl) rfl rfl ?_)
   refine Ops_nil ?_
   refine then_n (k24 _ _ ?_)
   clear k24 K24
   refine W_keepB [0, 4, 5, 6, 8, 9, 10, 12] fun B_ b_ => ?_
   simp only [e_, Nat.reduceAdd, Nat.reduceBEq] at b_
   subst b_
   refine W_seq_k fun K27 k27 => ?_
   refine W_seq_k fun K28 k28 => ?_
   refine W_region [43, 44] rfl (Ops_step (R_move rfl) rfl rfl (Ops_step (R_not rfl) rfl rfl ?_))
   refine Ops_nil ?_
   refine then_n (k28 _ _ ?_)
   clear k28 K28
   refine W_cond rfl (fun hc29_ => ?_) (fun hc29_ => ?_)
   ·
    replace h := h.1 hc29_
    refine W_seq_k fun K30 k30 => ?_
    refine W_region [4, 5, 6, 7, 8] rfl (Ops_step (R_assign rfl) rfl rfl (Ops_step (R_assign rfl) rfl rfl (Ops_step (R_assign rfl) rfl rfl (Ops_step (R_assign rfl) rfl rfl ?_))))
    refine Ops_step (R_assign rfl) rfl rfl ?_
    refine Ops_nil ?_
    refine then_n (k30 _ _ ?_)
    clear k30 K30
    refine W_keepB [4, 5, 6, 7, 8] fun B_ b_ => ?_
    simp only [e_, Nat.reduceAdd, Nat.reduceBEq] at b_
    subst b_
    refine W_ret ?_
    refine then_ret ?_
    clear k27 K27
    refine ⟨_, ⟨_, _, rfl, rfl, ⟨_, _, rfl, rfl, ⟨_, _, rfl, rfl, ⟨_, _, rfl, rfl, ⟨_, _, rfl, rfl, rfl⟩⟩⟩⟩⟩, ?_⟩
    exact ⟨0, 0, none, 0, [], false, false, _, _, rfl, hI, OwnS.nil, h⟩
   ·
    replace h := h.2 hc29_
    refine W_skip ?_
    refine then_n (k27 _ _ ?_)
    clear k27 K27
    refine ex_ h fun J32_ hr32_ h => ?_
    refine W_seq_join [0, 10] [4, 5, 6] (fun vals_ w2 => ∃ (x4_32 : Int) (x5_32 : Int) (x6_32 : List journal_record) (A6_32 : Option Addr) (c6_32 : Nat) (L H : Gh), vals_ = [vi x4_32, vi x5_32, .slice A6_32 x6_32.length c6_32] ∧ J32_ x4_32 x5_32 x6_32 ∧ Inv [] G w L H w2 ∧ Le L250_ L ∧ Le H25_ H ∧ OwnS w.heap.size 85 L H w2 A6_32 c6_32 x6_32 ∧ Tok H w2 d0 41 ([.slice Ad0_1 z0.length cd0_1]) ∧ MTok H H w2 d3 z3 ∧ Tok H w2 d2 46 ([.slice Ad2_1 z2.book_.l_.length cd2_1, .map (some d3), .pointer none, vi z2.gen_, vi z2.place_]) ∧ Tok H w2 d1 26 ([.pointer (some ⟨d2, 0, none⟩)]) ∧ True) (fun B_ b_ => ?_) (fun B_ b_ => ?_)
    ·
     simp only [e_, Nat.reduceAdd, Nat.reduceBEq] at b_
     subst b_
     clear hr32_
     have hll32_ := Le.refl L250_
     have hhh32_ := Le.refl H25_
     refine W_seq_k fun K33 k33 => ?_
     refine W_region [45, 46, 47, 48] rfl (Ops_step (R_move rfl) rfl rfl ?_)
     have hk35_ := h.1
     replace h := h.2
     refine Exists.elim (cut_ex (n := 1) (l := 1) (h := (r3_0.length : Int)) (hs4_.up hI.sub) rfl (by decide) hc4_ (by decide) hk35_ (Int.le_refl _)) fun A34_ h34_ => Exists.elim h34_ fun c34_ h34_ => ?_
     have hr34_ := h34_.1
     have hc34_ := h34_.2.1
     have hs34_ := h34_.2.2
     clear h34_
     refine Ops_step (X_slice (xs := r3_0) Try.underlying67 sz29 rfl hr34_ hc4_ rfl rfl (by decide) hk35_ (Int.le_refl _)) rfl rfl ?_
     clear hr34_
     refine Ops_step (R_len Try.underlying67 rfl rfl) rfl rfl (Ops_step (R_move rfl) rfl rfl ?_)
     refine Ops_nil ?_
     refine then_n (k33 _ _ ?_)
     clear k33 K33
     refine W_block ?_
     refine Exists.elim h fun I36_ h => Exists.elim h fun n36_ h => ?_
     have h0_ := h.1
     have hs36_ := h.2
     clear h
     refine W_loopB [0, 10, 12, 46, 47] [4, 5, 6, 48] (fun m vals_ w2 => ∃ (x4_36 : Int) (x5_36 : Int) (x6_36 : List journal_record) (A6_36 : Option Addr) (c6_36 : Nat) (x48_36 : Int) (L H : Gh), vals_ = [vi x4_36, vi x5_36, .slice A6_36 x6_36.length c6_36, vi x48_36] ∧ I36_ m x4_36 x5_36 x6_36 x48_36 ∧ Inv [] G w L H w2 ∧ Le L250_ L ∧ Le H25_ H ∧ OwnS w.heap.size 85 L H w2 A6_36 c6_36 x6_36 ∧ Tok H w2 d0 41 ([.slice Ad0_1 z0.length cd0_1]) ∧ MTok H H w2 d3 z3 ∧ Tok H w2 d2 46 ([.slice Ad2_1 z2.book_.l_.length cd2_1, .map (some d3), .pointer none, vi z2.gen_, vi z2.place_]) ∧ Tok H w2 d1 26 ([.pointer (some ⟨d2, 0, none⟩)]) ∧ True) n36_ _ rfl ⟨r16_0, r17_0, [], none, 0, 0, _, _, rfl, h0_, hI, Le.refl _, Le.refl _, OwnS.nil, htd0, htd3, htd2, htd1, trivial⟩ fun B_ b_ => ?_
     clear h0_
     simp only [e_, Nat.reduceAdd, Nat.reduceBEq] at b_
     subst b_
     clear htd0
     clear htd1
     clear htd2
     clear htd3
     rintro m36_ _ w36_ ⟨x4_36, x5_36, x6_36, A6_36, c6_36, x48_36, L36_, H36_, rfl, hJ36_, hI36_, hll36_, hhh36_, ho6_36, htd0, htd3, htd2, htd1, -⟩
     replace hI := hI36_
     clear hI36_
     have h := hs36_ m36_ x4_36 x5_36 x6_36 x48_36 hJ36_
     clear hs36_ hJ36_
     replace hs0 := hs0.up hhh36_
     replace hsd0_1 := hsd0_1.up hhh36_
     replace hsd2_1 := hsd2_1.up hhh36_
     replace hll32_ := hll32_.trans hll36_
     replace hhh32_ := hhh32_.trans hhh36_
     replace hs34_ := hs34_.up hhh36_
     refine W_seq_k fun K37 k37 => ?_
     refine W_region [49] rfl (Ops_step (R_lss rfl rfl) rfl rfl ?_)
     refine Ops_nil ?_
     refine then_n (k37 _ _ ?_)
     clear k37 K37
     refine W_seq_k fun K38 k38 => ?_
     refine W_if rfl (fun hc39_ => ?_) (fun hc39_ => ?_)
     ·
      replace h := h.1 hc39_
      refine W_skip ?_
      refine then_n (k38 _ _ ?_)
      clear k38 K38
      refine W_seq_k fun K40 k40 => ?_
      refine W_block ?_
      refine W_seq_k fun K41 k41 => ?_
      refine W_region [50, 51, 14] rfl ?_
      refine ex_ h fun x42_ hx42_ h => ?_
      have ha42_ := (hs34_.atL hx42_).1
      refine Exists.elim (hs34_.atL hx42_).2 fun A42_ hA42_ => Exists.elim hA42_ fun c42_ hA42_ => ?_
      have hc42_ := hA42_.1
      have hs42_ := hA42_.2.1
      have hg42_ := hA42_.2.2
      clear hA42_
      refine Ops_step (R_indexSl Try.underlying67 sz29 rfl rfl hx42_.1 hx42_.lt ha42_) rfl rfl (Ops_step (R_load ag29 rfl (hI.st _ _ hg42_)) rfl rfl (Ops_step (R_assign rfl) rfl rfl ?_))
      refine Ops_nil ?_
      refine then_n (k41 _ _ ?_)
      clear k41 K41
      refine W_seq_k fun K43 k43 => ?_
      refine W_region [53, 54, 55, 56, 57, 58, 52, 59, 60, 15, none, 16] rfl (Ops_step (R_move rfl) rfl rfl (Ops_step (R_move rfl) rfl rfl (Ops_step (R_move rfl) rfl rfl (Ops_step (R_len Try.underlying41 rfl rfl) rfl rfl ?_))))
      have hk44_ := h.1
      replace h := h.2
      refine Ops_step (R_add rfl rfl (wI hk44_.1 hk44_.2)) rfl rfl ?_
      refine Ops_call (C_func bd70 rfl) rfl rfl ?_
      refine (journal_read_ok (x0 := x42_) (x1 := (r25_0 + (x6_36.length : Int))) hI.st (hg.up hI.le) hc42_ hs42_ h).mono ?_
      rintro _ w45_ ⟨l45_0, r45_0, r45_1, L45_, H45_, rfl, hI45_, hr45_0, h⟩
      refine Exists.elim (hI.call hI45_ (by simp)) fun L450_ h45_ => ?_
      have hz45_ := hI.size
      replace hI := h45_.1
      have u45_ := h45_.2.1
      have hl45_ := h45_.2.2
      clear h45_
      replace hs0 := hs0.up u45_.hh
      replace hsd0_1 := hsd0_1.up u45_.hh
      replace hsd2_1 := hsd2_1.up u45_.hh
      replace hll32_ := hll32_.trans u45_.ll
      replace hhh32_ := hhh32_.trans u45_.hh
      replace hs34_ := hs34_.up u45_.hh
      replace htd0 := htd0.up u45_ (by simp)
      replace htd3 := htd3.up u45_.hh u45_ (by simp)
      replace htd2 := htd2.up u45_ (by simp)
      replace htd1 := htd1.up u45_ (by simp)
      replace ho6_36 := ho6_36.up u45_.ll u45_ (by simp)
      replace hll36_ := hll36_.trans u45_.ll
      replace hhh36_ := hhh36_.trans u45_.hh
      replace hr45_0 := Rp.mono hl45_ hr45_0
      obtain ⟨A45_0_1, c45_0_1, rfl, ⟨hc45_0_1, hs45_0_1⟩⟩ := hr45_0
      clear hI45_ u45_ hl45_
      refine ⟨_, rfl, ?_⟩
      refine Ops_step (R_move rfl) rfl rfl ?_
      refine Ops_step (R_extract (v := .agg #[vi r45_0.label_, .slice A45_0_1 r45_0.data_.length c45_0_1]) rfl rfl) rfl rfl ?_
      refine Ops_step (R_extract (v := .bool r45_1) rfl rfl) rfl rfl ?_
      have hlp46_ho6_36 := ho6_36.lt
      have hI0_ := hI
      refine Ops_to (R_alloc zr85) rfl rfl ?_
      rintro _ w46_ ⟨b46_, rfl, hb46_, hB46_, hF46_⟩
      replace hI := hI.fr0 hF46_
      replace htd0 := htd0.fr0 hF46_
      replace htd3 := htd3.fr0 hF46_
      replace htd2 := htd2.fr0 hF46_
      replace htd1 := htd1.fr0 hF46_
      replace ho6_36 := ho6_36.fr0 hF46_
      have ht46_ : Tok H45_ _ b46_ 85 ([vi 0, .slice none 0 0]) := ⟨hB46_.to rfl, Out.ge hI0_.st (Nat.le_of_eq hb46_.symm)⟩
      have hge_b46_ : w.heap.size ≤ b46_ := hb46_ ▸ hI0_.size
      have hsq46_ho6_36 : ∀ i_ ∈ bk A6_36 c6_36, i_ ∉ [b46_] := fun i_ hi_ hm_ => by have h_ := hlp46_ho6_36 i_ hi_; rw [List.mem_singleton] at hm_; omega
      clear hB46_ hb46_ hI0_ hF46_
      refine Ops_to0 (R_storeN sz85 rfl rfl rfl ht46_.blk (Nat.le_of_ble_eq_true rfl) rfl) rfl ?_
      rintro _ w47_ ⟨hB47_, hF47_⟩
      replace hI := hI.tok hF47_ (out1 ht46_.out) (new1 hge_b46_)
      replace htd0 := htd0.fr hF47_ (htd0.apart ht46_ (by decide))
      replace htd3 := htd3.fr hF47_ (htd3.neT ht46_)
      replace htd2 := htd2.fr hF47_ (htd2.apart ht46_ (by decide))
      replace htd1 := htd1.fr hF47_ (htd1.apart ht46_ (by decide))
      replace ho6_36 := ho6_36.fr hF47_ hsq46_ho6_36
      replace ht46_ : Tok H45_ _ b46_ 85 ([vi r45_0.label_, .slice A45_0_1 r45_0.data_.length c45_0_1]) := ⟨hB47_, ht46_.out⟩
      clear hF47_ hB47_
      refine Ops_step (R_assign rfl) rfl rfl ?_
      refine Ops_nil ?_
      refine then_n (k43 _ _ ?_)
      clear k43 K43
      refine W_keepB [0, 4, 5, 6, 10, 12, 15, 16, 46, 47, 48] fun B_ b_ => ?_
      simp only [e_, Nat.reduceAdd, Nat.reduceBEq] at b_
      subst b_
      refine W_seq_k fun K49 k49 => ?_
      refine W_seq_k fun K50 k50 => ?_
      refine W_region [61, 62] rfl (Ops_step (R_move rfl) rfl rfl (Ops_step (R_not rfl) rfl rfl ?_))
      refine Ops_nil ?_
      refine then_n (k50 _ _ ?_)
      clear k50 K50
      refine W_cond rfl (fun hc51_ => ?_) (fun hc51_ => ?_)
      ·
       replace h := h.1 hc51_
       refine W_seq_k fun K52 k52 => ?_
       refine W_region [63, 64, 65, 4, 5, 6, 7, 8] rfl (Ops_step (R_move rfl) rfl rfl (Ops_step (R_move rfl) rfl rfl (Ops_step (R_move rfl) rfl rfl (Ops_step (R_assign rfl) rfl rfl ?_))))
       refine Ops_step (R_assign rfl) rfl rfl (Ops_step (R_assign rfl) rfl rfl (Ops_step (R_assign rfl) rfl rfl (Ops_step (R_assign rfl) rfl rfl ?_)))
       refine Ops_nil ?_
       refine then_n (k52 _ _ ?_)
       clear k52 K52
       refine W_keepB [4, 5, 6, 7, 8] fun B_ b_ => ?_
       simp only [e_, Nat.reduceAdd, Nat.reduceBEq] at b_
       subst b_
       refine W_ret ?_
       refine then_ret ?_
       clear k49 K49
       refine block_ret ?_
       refine then_ret ?_
       clear k40 K40
       refine then_ret ?_
       refine block_ret ?_
       refine then_ret ?_
       refine ⟨_, ⟨_, _, rfl, rfl, ⟨_, _, rfl, rfl, ⟨_, _, rfl, rfl, ⟨_, _, rfl, rfl, ⟨_, _, rfl, rfl, rfl⟩⟩⟩⟩⟩, ?_⟩
       exact ⟨x4_36, x5_36, A6_36, c6_36, x6_36, false, true, _, _, rfl, hI, ho6_36, h⟩
      ·
       replace h := h.2 hc51_
       refine W_skip ?_
       refine then_n (k49 _ _ ?_)
       clear k49 K49
       refine W_region [66, 67, 68, 69, 6] rfl (Ops_step (R_move rfl) rfl rfl (Ops_step (R_loadN ag85 sz85 rfl ht46_.blk (Nat.le_of_ble_eq_true rfl)) rfl rfl ?_))
       have hlo54_ho6_36 := ho6_36.lt
       refine Ops_to (R_buildSlice el41 zr85 (by decide) (by decide) rfl rfl) rfl rfl ?_
       rintro _ w54_ ⟨b54_, rfl, hb54_, hB54_, hF54_⟩
       have ho54_ : OwnS w.heap.size 85 L450_ H45_ _ (some ⟨b54_, 0, none⟩) 1 ([r45_0] : List journal_record) := OwnS.ofBlk (css := [[vi r45_0.label_, .slice A45_0_1 r45_0.data_.length c45_0_1]]) hI.st hb54_ hB54_ (.cons ⟨A45_0_1, c45_0_1, rfl, ⟨hc45_0_1, hs45_0_1⟩⟩ .nil) rfl (by have := hI.size; omega) (by show 1 ≤ maxLen; decide)
       replace hI := hI.fr0 hF54_
       replace htd0 := htd0.fr0 hF54_
       replace htd3 := htd3.fr0 hF54_
       replace htd2 := htd2.fr0 hF54_
       replace htd1 := htd1.fr0 hF54_
       replace ho6_36 := ho6_36.fr0 hF54_
       clear hF54_ hB54_
       have hsp54_ho6_36 : ∀ i ∈ bk (some ⟨b54_, 0, none⟩) 1, i ∉ bk A6_36 c6_36 := sep_new (fun i_ hi_ => by have := (bk_of hi_).1; simp only [blkOf, List.mem_singleton] at this; omega) hlo54_ho6_36
       have hk56_ := h.1
       replace h := h.2
       refine Ops_to (X_append (α := journal_record) (xs := x6_36) (ys := ([r45_0] : List journal_record)) el41 rfl rfl ho6_36 (Srcs.ofOwn Try.underlying41 ho54_ (by decide)) hI.st hk56_ (by decide) hI.size) rfl rfl ?_
       rintro _ w55_ ⟨A55_, c55_, rfl, ho55_, hF55_, hbk55_⟩
       clear hbk55_
       replace hI := hI.tok hF55_ ho6_36.out (ho6_36.new (Nat.le_refl _))
       replace htd0 := htd0.fr hF55_ (ho6_36.old hlt_d0)
       replace htd3 := htd3.fr hF55_ (ho6_36.old hlt_d3)
       replace htd2 := htd2.fr hF55_ (ho6_36.old hlt_d2)
       replace htd1 := htd1.fr hF55_ (ho6_36.old hlt_d1)
       clear hF55_ ho6_36
       refine Ops_step (R_assign rfl) rfl rfl ?_
       refine Ops_nil ?_
       refine block_n ?_
       refine then_n (k40 _ _ ?_)
       clear k40 K40
       refine W_keepB [0, 4, 5, 6, 10, 12, 46, 47, 48] fun B_ b_ => ?_
       simp only [e_, Nat.reduceAdd, Nat.reduceBEq] at b_
       subst b_
       refine W_region [70, 48] rfl ?_
       have hk58_ := h.1
       replace h := h.2
       refine Ops_step (R_add rfl rfl (wI hk58_.1 hk58_.2)) rfl rfl (Ops_step (R_move rfl) rfl rfl ?_)
       refine Ops_nil ?_
       refine then_n ?_
       exact h.elim fun m_ h => ⟨m_, _, h.1, rfl, ⟨x4_36, x5_36, (x6_36 ++ ([r45_0] : List journal_record)), A55_, c55_, (x48_36 + 1), _, _, rfl, h.2, hI, hll36_, hhh36_, ho55_, htd0, htd3, htd2, htd1, trivial⟩, ⟨rfl, rfl, rfl, rfl, rfl, trivial⟩⟩
     ·
      replace h := h.2 hc39_
      refine W_exit ?_
      refine then_exit ?_
      clear k38 K38
      refine then_exit ?_
      refine block_exit ?_
      refine then_n ?_
      exact ⟨_, rfl, ⟨x4_36, x5_36, x6_36, A6_36, c6_36, _, _, rfl, h, hI, hll32_, hhh32_, ho6_36, htd0, htd3, htd2, htd1, trivial⟩, ⟨rfl, rfl, trivial⟩⟩
    ·
     simp only [e_, Nat.reduceAdd, Nat.reduceBEq] at b_
     subst b_
     clear h
     clear htd0
     clear htd1
     clear htd2
     clear htd3
     rintro _ w32_ ⟨x4_32, x5_32, x6_32, A6_32, c6_32, L32_, H32_, rfl, hJ32_, hI32_, hll32_, hhh32_, ho6_32, htd0, htd3, htd2, htd1, -⟩
     replace hI := hI32_
     clear hI32_
     have h := hr32_ x4_32 x5_32 x6_32 hJ32_
     clear hr32_ hJ32_
     replace hs0 := hs0.up hhh32_
     replace hsd0_1 := hsd0_1.up hhh32_
     replace hsd2_1 := hsd2_1.up hhh32_
     refine W_seq_k fun K59 k59 => ?_
     refine W_region [71, 72, 73, 74, 75, 76, 77, 4, 5, 6, 7, 8] rfl (Ops_step (R_move rfl) rfl rfl (Ops_step (R_move rfl) rfl rfl (Ops_step (R_move rfl) rfl rfl (Ops_step (R_move rfl) rfl rfl ?_))))
     refine Ops_step (R_move rfl) rfl rfl (Ops_step (R_len Try.underlying29 rfl rfl) rfl rfl (Ops_step (R_eql rfl rfl) rfl rfl (Ops_step (R_assign rfl) rfl rfl (Ops_step (R_assign rfl) rfl rfl ?_))))
     refine Ops_step (R_assign rfl) rfl rfl (Ops_step (R_assign rfl) rfl rfl (Ops_step (R_assign rfl) rfl rfl ?_))
     refine Ops_nil ?_
     refine then_n (k59 _ _ ?_)
     clear k59 K59
     refine W_keepB [4, 5, 6, 7, 8] fun B_ b_ => ?_
     simp only [e_, Nat.reduceAdd, Nat.reduceBEq] at b_
     subst b_
     refine W_ret ?_
     refine ⟨_, ⟨_, _, rfl, rfl, ⟨_, _, rfl, rfl, ⟨_, _, rfl, rfl, ⟨_, _, rfl, rfl, ⟨_, _, rfl, rfl, rfl⟩⟩⟩⟩⟩, ?_⟩
     exact ⟨x4_32, x5_32, A6_32, c6_32, x6_32, (decide (r3_1 = (x0.length : Int))), true, _, _, rfl, hI, ho6_32, h⟩

theorem journal_Journal_dead_v3_ok {G : Gh} {w : World} (hS : St G w) (hg : GL G) {d0 : Nat} {z0 : journal_Journal} {Ad0_1 : Option Addr} {cd0_1 : Nat} {d1 : Nat} {z1 : List (Int × Int)} (htd1 : MTok G G w d1 z1) (htd0 : Tok G w d0 46 ([.slice Ad0_1 z0.book_.l_.length cd0_1, .map (some d1), .pointer none, vi z0.gen_, vi z0.place_])) (hcd0_1 : z0.book_.l_.length ≤ cd0_1) (hsd0_1 : Sl G Ad0_1 z0.book_.l_) {Q : Bool → Prop} (h : journal_Journal_dead_v3 z0 z1 Q) : Calls Try.prog 39 #[.pointer (some ⟨d0, 0, none⟩)] w fun e w2 => ∃ (r0 : Bool) (L H : Gh), e = .returned (.bool r0) ∧ Inv [] G w L H w2 ∧ Q r0 := by
 unfold journal_Journal_dead_v3 at h
 have hI := Inv.start (M := []) hS
 refine calls_W 12 Try.func39 rfl Try.ntmps39 rfl [.tmp 2] rfl ?_
 have hlt_d0 := htd0.blk.lt
 have hlt_d1 := htd1.lt
 refine W_seq_k fun K1 k1 => ?_
 refine W_region [2] rfl (Ops_step (R_assign rfl) rfl rfl ?_)
 refine Ops_nil ?_
 refine then_n (k1 _ _ ?_)
 clear k1 K1
 refine W_seq_k fun K2 k2 => ?_
 refine W_region [3, 4, 5, 6, 7, 8, 9, 10, 11, 2] rfl (Ops_step (R_move rfl) rfl rfl (Ops_step (R_ptrNil Try.underlying26 rfl rfl) rfl rfl (Ops_step (R_move rfl) rfl rfl (Ops_step (R_move rfl) rfl rfl ?_))))
 refine Ops_step (R_nilCheck rfl) rfl rfl (Ops_step (R_fieldAddr fo46_1 rfl) rfl rfl ?_)
 refine Ops_step (R_loadB (v := .pointer none) ag25 rfl htd0.blk rfl) rfl rfl ?_
 refine Ops_step (R_ptrNil Try.underlying25 rfl rfl) rfl rfl (Ops_step (R_pick_false rfl rfl) rfl rfl (Ops_step (R_assign rfl) rfl rfl ?_))
 refine Ops_nil ?_
 refine then_n (k2 _ _ ?_)
 clear k2 K2
 refine W_keepB [2] fun B_ b_ => ?_
 simp only [e_, Nat.reduceAdd, Nat.reduceBEq] at b_
 subst b_
 refine W_ret ?_
 refine ⟨_, ⟨_, _, rfl, rfl, rfl⟩, ?_⟩
 exact ⟨true, _, _, rfl, hI, h⟩

end Go.Proofs.Ytkmljjhjojolcaa

