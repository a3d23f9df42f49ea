/- What is shown of the program on the way to the law. -/
import Derived.Test.YtkmljjhjojolcaaZc3
import Derived.Test.YtkmljjhjojolcaaZc4
import Derived.Test.YtkmljjhjojolcaaZc5
import Derived.Test.YtkmljjhjojolcaaZc9
import Derived.Test.YtkmljjhjojolcaaZc10
import Derived.Test.YtkmljjhjojolcaaProg
set_option linter.unusedVariables false
set_option linter.unusedSimpArgs false
set_option maxHeartbeats 4000000
namespace Go.Proofs.Ytkmljjhjojolcaa
open Go Go.Sx Go.Lx
namespace TJmCounts
theorem hm : Try.prog.follows .mixedOrders = true := by kernel_rfl
theorem ag29 : aggB Try.prog 29 = some false := by kernel_rfl
theorem ag3 : aggB Try.prog 3 = some false := by kernel_rfl
theorem ag31 : aggB Try.prog 31 = some true := by kernel_rfl
theorem ag35 : aggB Try.prog 35 = some true := by kernel_rfl
theorem ag39 : aggB Try.prog 39 = some true := by kernel_rfl
theorem ag9 : aggB Try.prog 9 = some false := by kernel_rfl
theorem bd11 : bodied Try.prog 11 = true := by kernel_rfl
theorem bd12 : bodied Try.prog 12 = true := by kernel_rfl
theorem bd13 : bodied Try.prog 13 = true := by kernel_rfl
theorem bd14 : bodied Try.prog 14 = true := by kernel_rfl
theorem bd15 : bodied Try.prog 15 = true := by kernel_rfl
theorem bd16 : bodied Try.prog 16 = true := by kernel_rfl
theorem bd17 : bodied Try.prog 17 = true := by kernel_rfl
theorem fo31_0 : offB Try.prog 31 0 = some 0 := by kernel_rfl
theorem fo31_1 : offB Try.prog 31 1 = some 1 := by kernel_rfl
theorem fo31_3 : offB Try.prog 31 3 = some 3 := by kernel_rfl
theorem fo39_0 : offB Try.prog 39 0 = some 0 := by kernel_rfl
theorem fo39_1 : offB Try.prog 39 1 = some 1 := by kernel_rfl
theorem sz3 : sz Try.prog 3 = some 1 := by kernel_rfl
theorem sz31 : sz Try.prog 31 = some 4 := by kernel_rfl
theorem sz35 : sz Try.prog 35 = some 32 := by kernel_rfl
theorem sz39 : sz Try.prog 39 = some 2 := by kernel_rfl
theorem zr31 : zr Try.prog 31 = some ([.int .i64 0] ++ [.int .i64 0] ++ [.int .i64 0] ++ [.slice none 0 0]) := by kernel_rfl
theorem zr35 : zr Try.prog 35 = some (List.replicate 32 (.int .i64 0)) := by kernel_rfl
theorem zr39 : zr Try.prog 39 = some ([.int .i64 0] ++ [.string ByteArray.empty]) := by kernel_rfl
end TJmCounts
open TJmCounts
theorem sealskinlaw06_JournalCounts_ok {G : Gh} {w : World} (hS : St G w) (hg : GL G) {A0 : Option Addr} {c0 : Nat} {x0 : List sealskinlaw06_Do} (hc0 : x0.length ≤ c0) (hs0 : Sl G A0 x0) {Q : Bool → Prop} (h : sealskinlaw06_JournalCounts x0 Q) : Calls Try.prog 3 #[.slice A0 x0.length c0] w fun e w2 => ∃ (r0 : Bool) (L H : Gh), e = .returned (.bool r0) ∧ Inv [] G w L H w2 ∧ Q r0 := by
 unfold sealskinlaw06_JournalCounts at h
 have hI := Inv.start (M := []) hS
 refine calls_W 83 Try.func3 rfl Try.ntmps3 rfl [.tmp 2] rfl ?_
 refine W_seq_k fun K1 k1 => ?_
 refine W_region [2] rfl (Ops_step (R_assign rfl) rfl rfl ?_)
 refine Ops_nil ?_
 refine then_n (k1 _ _ ?_)
 clear k1 K1
 refine W_seq_k fun K2 k2 => ?_
 refine W_seq_k fun K3 k3 => ?_
 refine W_region [13, 14, 15] rfl (Ops_step (R_move rfl) rfl rfl ?_)
 refine Ops_call (C_func bd11 rfl) rfl rfl ?_
 refine (sealskinlaw06_short_ok (x0 := x0) hI.st (hg.up hI.le) hc0 hs0 h).mono ?_
 rintro _ w4_ ⟨r4_0, L4_, H4_, rfl, hI4_, h⟩
 refine Exists.elim (hI.call hI4_ (by simp)) fun L40_ h4_ => ?_
 have hz4_ := hI.size
 replace hI := h4_.1
 have u4_ := h4_.2.1
 have hl4_ := h4_.2.2
 clear h4_
 replace hs0 := hs0.up u4_.hh
 clear hI4_ u4_ hl4_
 refine ⟨_, rfl, ?_⟩
 refine Ops_step (R_not rfl) rfl rfl ?_
 refine Ops_nil ?_
 refine then_n (k3 _ _ ?_)
 clear k3 K3
 refine W_cond rfl (fun hc5_ => ?_) (fun hc5_ => ?_)
 ·
  replace h := h.1 hc5_
  refine W_seq_k fun K6 k6 => ?_
  refine W_region [16, 2] rfl ?_
  refine Ops_call (C_func bd12 rfl) rfl rfl ?_
  refine (sealskinlaw06_awake_ok  hI.st (hg.up hI.le)  h).mono ?_
  rintro _ w7_ ⟨r7_0, L7_, H7_, rfl, hI7_, h⟩
  refine Exists.elim (hI.call hI7_ (by simp)) fun L70_ h7_ => ?_
  have hz7_ := hI.size
  replace hI := h7_.1
  have u7_ := h7_.2.1
  have hl7_ := h7_.2.2
  clear h7_
  clear hI7_ u7_ hl7_
  refine ⟨_, rfl, ?_⟩
  refine Ops_step (R_assign rfl) rfl rfl ?_
  refine Ops_nil ?_
  refine then_n (k6 _ _ ?_)
  clear k6 K6
  refine W_ret ?_
  refine then_ret ?_
  clear k2 K2
  refine ⟨_, ⟨_, _, rfl, rfl, rfl⟩, ?_⟩
  exact ⟨r7_0, _, _, rfl, hI, h⟩
 ·
  replace h := h.2 hc5_
  refine W_skip ?_
  refine then_n (k2 _ _ ?_)
  clear k2 K2
  refine W_seq_k fun K8 k8 => ?_
  refine W_region [18, 17, 19, 20, 21, 3, 4, 5] rfl ?_
  refine Ops_call (C_func bd13 rfl) rfl rfl ?_
  refine (sealskinlaw06_begun_ok  hI.st (hg.up hI.le)  h).mono ?_
  rintro _ w9_ ⟨r9_2, o0_9, y9_o0, A9_o0_1, c9_o0_1, A9_o0_2, c9_o0_2, A9_o0_3, c9_o0_3, o1_9, y9_o1, A9_o1_1, c9_o1_1, o2_9, y9_o2, L9_, H9_, rfl, hI9_, hge_o0_9, ht9_o0, hc9_o0_1, hs9_o0_1, hc9_o0_2, hs9_o0_2, hc9_o0_3, hs9_o0_3, hge_o1_9, ht9_o1, hc9_o1_1, hs9_o1_1, hge_o2_9, ht9_o2, h⟩
  have hge0_o0_9 := hge_o0_9
  replace hge_o0_9 := Nat.le_trans hI.size hge_o0_9
  have hge0_o1_9 := hge_o1_9
  replace hge_o1_9 := Nat.le_trans hI.size hge_o1_9
  have hge0_o2_9 := hge_o2_9
  replace hge_o2_9 := Nat.le_trans hI.size hge_o2_9
  refine Exists.elim (hI.call hI9_ (by simp)) fun L90_ h9_ => ?_
  have hz9_ := hI.size
  replace hI := h9_.1
  have u9_ := h9_.2.1
  have hl9_ := h9_.2.2
  clear h9_
  replace hs0 := hs0.up u9_.hh
  clear hI9_ u9_ hl9_
  refine ⟨_, rfl, ?_⟩
  refine Ops_step (R_move rfl) rfl rfl ?_
  refine Ops_step (R_extract (v := .pointer (some ⟨o0_9, 0, none⟩)) rfl rfl) rfl rfl ?_
  refine Ops_step (R_extract (v := .pointer (some ⟨o1_9, 0, none⟩)) rfl rfl) rfl rfl ?_
  refine Ops_step (R_extract (v := .bool r9_2) rfl rfl) rfl rfl ?_
  refine Ops_step (R_assign rfl) rfl rfl (Ops_step (R_assign rfl) rfl rfl (Ops_step (R_assign rfl) rfl rfl ?_))
  refine Ops_nil ?_
  refine then_n (k8 _ _ ?_)
  clear k8 K8
  refine W_keepB [0, 4, 5] fun B_ b_ => ?_
  simp only [e_, Nat.reduceAdd, Nat.reduceBEq] at b_
  subst b_
  refine W_seq_k fun K11 k11 => ?_
  refine W_seq_k fun K12 k12 => ?_
  refine W_region [22, 23] rfl (Ops_step (R_move rfl) rfl rfl (Ops_step (R_not rfl) rfl rfl ?_))
  refine Ops_nil ?_
  refine then_n (k12 _ _ ?_)
  clear k12 K12
  refine W_cond rfl (fun hc13_ => ?_) (fun hc13_ => ?_)
  ·
   replace h := h.1 hc13_
   refine W_seq_k fun K14 k14 => ?_
   refine W_region [2] rfl (Ops_step (R_assign rfl) rfl rfl ?_)
   refine Ops_nil ?_
   refine then_n (k14 _ _ ?_)
   clear k14 K14
   refine W_ret ?_
   refine then_ret ?_
   clear k11 K11
   refine ⟨_, ⟨_, _, rfl, rfl, rfl⟩, ?_⟩
   exact ⟨false, _, _, rfl, hI, h⟩
  ·
   replace h := h.2 hc13_
   refine W_skip ?_
   refine then_n (k11 _ _ ?_)
   clear k11 K11
   refine ex_ h fun J15_ hr15_ h => ?_
   refine W_seq_join [4] [] (fun vals_ w2 => ∃ (yo1_9_15 : journal_Journal) (Ao1_9_15_1 : Option Addr) (co1_9_15_1 : Nat) (yo2_9_15 : List (Int × Int)) (yo0_9_15 : disk_Disk) (Ao0_9_15_1 : Option Addr) (co0_9_15_1 : Nat) (Ao0_9_15_2 : Option Addr) (co0_9_15_2 : Nat) (Ao0_9_15_3 : Option Addr) (co0_9_15_3 : Nat) (L H : Gh), vals_ = [] ∧ J15_ yo1_9_15 yo2_9_15 yo0_9_15 ∧ Inv [] G w L H w2 ∧ Le L90_ L ∧ Le H9_ H ∧ Tok H w2 o1_9 46 ([.slice Ao1_9_15_1 yo1_9_15.book_.l_.length co1_9_15_1, .map (some o2_9), .pointer (some ⟨o0_9, 0, none⟩), vi yo1_9_15.gen_, vi yo1_9_15.place_]) ∧ yo1_9_15.book_.l_.length ≤ co1_9_15_1 ∧ Sl H Ao1_9_15_1 yo1_9_15.book_.l_ ∧ MTok H H w2 o2_9 yo2_9_15 ∧ Tok H w2 o0_9 53 ([.slice Ao0_9_15_1 yo0_9_15.files_.e0_.length co0_9_15_1, .slice Ao0_9_15_2 yo0_9_15.files_.e1_.length co0_9_15_2, .slice Ao0_9_15_3 yo0_9_15.files_.e2_.length co0_9_15_3, vi yo0_9_15.room_, .bool yo0_9_15.off_, .bool yo0_9_15.armed_, vi yo0_9_15.left_]) ∧ yo0_9_15.files_.e0_.length ≤ co0_9_15_1 ∧ Sl H Ao0_9_15_1 yo0_9_15.files_.e0_ ∧ yo0_9_15.files_.e1_.length ≤ co0_9_15_2 ∧ Sl H Ao0_9_15_2 yo0_9_15.files_.e1_ ∧ yo0_9_15.files_.e2_.length ≤ co0_9_15_3 ∧ Sl H Ao0_9_15_3 yo0_9_15.files_.e2_ ∧ True) (fun B_ b_ => ?_) (fun B_ b_ => ?_)
   ·
    simp only [e_, Nat.reduceAdd, Nat.reduceBEq] at b_
    subst b_
    clear hr15_
    have hll15_ := Le.refl L90_
    have hhh15_ := Le.refl H9_
    refine W_seq_k fun K16 k16 => ?_
    refine W_region [24, 25, 26] rfl (Ops_step (R_move rfl) rfl rfl (Ops_step (R_len Try.underlying22 rfl rfl) rfl rfl (Ops_step (R_move rfl) rfl rfl ?_)))
    refine Ops_nil ?_
    refine then_n (k16 _ _ ?_)
    clear k16 K16
    refine W_block ?_
    refine Exists.elim h fun I17_ h => Exists.elim h fun n17_ h => ?_
    have h0_ := h.1
    have hs17_ := h.2
    clear h
    refine W_loopB [4, 24, 25] [26] (fun m vals_ w2 => ∃ (x26_17 : Int) (yo1_9_17 : journal_Journal) (Ao1_9_17_1 : Option Addr) (co1_9_17_1 : Nat) (yo2_9_17 : List (Int × Int)) (yo0_9_17 : disk_Disk) (Ao0_9_17_1 : Option Addr) (co0_9_17_1 : Nat) (Ao0_9_17_2 : Option Addr) (co0_9_17_2 : Nat) (Ao0_9_17_3 : Option Addr) (co0_9_17_3 : Nat) (L H : Gh), vals_ = [vi x26_17] ∧ I17_ m x26_17 yo1_9_17 yo2_9_17 yo0_9_17 ∧ Inv [] G w L H w2 ∧ Le L90_ L ∧ Le H9_ H ∧ Tok H w2 o1_9 46 ([.slice Ao1_9_17_1 yo1_9_17.book_.l_.length co1_9_17_1, .map (some o2_9), .pointer (some ⟨o0_9, 0, none⟩), vi yo1_9_17.gen_, vi yo1_9_17.place_]) ∧ yo1_9_17.book_.l_.length ≤ co1_9_17_1 ∧ Sl H Ao1_9_17_1 yo1_9_17.book_.l_ ∧ MTok H H w2 o2_9 yo2_9_17 ∧ Tok H w2 o0_9 53 ([.slice Ao0_9_17_1 yo0_9_17.files_.e0_.length co0_9_17_1, .slice Ao0_9_17_2 yo0_9_17.files_.e1_.length co0_9_17_2, .slice Ao0_9_17_3 yo0_9_17.files_.e2_.length co0_9_17_3, vi yo0_9_17.room_, .bool yo0_9_17.off_, .bool yo0_9_17.armed_, vi yo0_9_17.left_]) ∧ yo0_9_17.files_.e0_.length ≤ co0_9_17_1 ∧ Sl H Ao0_9_17_1 yo0_9_17.files_.e0_ ∧ yo0_9_17.files_.e1_.length ≤ co0_9_17_2 ∧ Sl H Ao0_9_17_2 yo0_9_17.files_.e1_ ∧ yo0_9_17.files_.e2_.length ≤ co0_9_17_3 ∧ Sl H Ao0_9_17_3 yo0_9_17.files_.e2_ ∧ True) n17_ _ rfl ⟨0, y9_o1, A9_o1_1, c9_o1_1, y9_o2, y9_o0, A9_o0_1, c9_o0_1, A9_o0_2, c9_o0_2, A9_o0_3, c9_o0_3, _, _, rfl, h0_, hI, Le.refl _, Le.refl _, ht9_o1, hc9_o1_1, hs9_o1_1, ht9_o2, ht9_o0, hc9_o0_1, hs9_o0_1, hc9_o0_2, hs9_o0_2, hc9_o0_3, hs9_o0_3, trivial⟩ fun B_ b_ => ?_
    clear h0_
    simp only [e_, Nat.reduceAdd, Nat.reduceBEq] at b_
    subst b_
    rintro m17_ _ w17_ ⟨x26_17, yo1_9_17, Ao1_9_17_1, co1_9_17_1, yo2_9_17, yo0_9_17, Ao0_9_17_1, co0_9_17_1, Ao0_9_17_2, co0_9_17_2, Ao0_9_17_3, co0_9_17_3, L17_, H17_, rfl, hJ17_, hI17_, hll17_, hhh17_, hto1_9_17, hco1_9_17_1, hso1_9_17_1, hto2_9_17, hto0_9_17, hco0_9_17_1, hso0_9_17_1, hco0_9_17_2, hso0_9_17_2, hco0_9_17_3, hso0_9_17_3, -⟩
    replace hI := hI17_
    clear hI17_
    have h := hs17_ m17_ x26_17 yo1_9_17 yo2_9_17 yo0_9_17 hJ17_
    clear hs17_ hJ17_
    replace hs0 := hs0.up hhh17_
    replace hll15_ := hll15_.trans hll17_
    replace hhh15_ := hhh15_.trans hhh17_
    refine W_seq_k fun K18 k18 => ?_
    refine W_region [27] rfl (Ops_step (R_lss rfl rfl) rfl rfl ?_)
    refine Ops_nil ?_
    refine then_n (k18 _ _ ?_)
    clear k18 K18
    refine W_seq_k fun K19 k19 => ?_
    refine W_if rfl (fun hc20_ => ?_) (fun hc20_ => ?_)
    ·
     replace h := h.1 hc20_
     refine W_skip ?_
     refine then_n (k19 _ _ ?_)
     clear k19 K19
     refine ex_ h fun J21_ hr21_ h => ?_
     refine W_seq_join [4, 24, 25, 26] [] (fun vals_ w2 => ∃ (yo1_9_21 : journal_Journal) (Ao1_9_21_1 : Option Addr) (co1_9_21_1 : Nat) (yo2_9_21 : List (Int × Int)) (yo0_9_21 : disk_Disk) (Ao0_9_21_1 : Option Addr) (co0_9_21_1 : Nat) (Ao0_9_21_2 : Option Addr) (co0_9_21_2 : Nat) (Ao0_9_21_3 : Option Addr) (co0_9_21_3 : Nat) (L H : Gh), vals_ = [] ∧ J21_ yo1_9_21 yo2_9_21 yo0_9_21 ∧ Inv [] G w L H w2 ∧ Le L17_ L ∧ Le H17_ H ∧ Tok H w2 o1_9 46 ([.slice Ao1_9_21_1 yo1_9_21.book_.l_.length co1_9_21_1, .map (some o2_9), .pointer (some ⟨o0_9, 0, none⟩), vi yo1_9_21.gen_, vi yo1_9_21.place_]) ∧ yo1_9_21.book_.l_.length ≤ co1_9_21_1 ∧ Sl H Ao1_9_21_1 yo1_9_21.book_.l_ ∧ MTok H H w2 o2_9 yo2_9_21 ∧ Tok H w2 o0_9 53 ([.slice Ao0_9_21_1 yo0_9_21.files_.e0_.length co0_9_21_1, .slice Ao0_9_21_2 yo0_9_21.files_.e1_.length co0_9_21_2, .slice Ao0_9_21_3 yo0_9_21.files_.e2_.length co0_9_21_3, vi yo0_9_21.room_, .bool yo0_9_21.off_, .bool yo0_9_21.armed_, vi yo0_9_21.left_]) ∧ yo0_9_21.files_.e0_.length ≤ co0_9_21_1 ∧ Sl H Ao0_9_21_1 yo0_9_21.files_.e0_ ∧ yo0_9_21.files_.e1_.length ≤ co0_9_21_2 ∧ Sl H Ao0_9_21_2 yo0_9_21.files_.e1_ ∧ yo0_9_21.files_.e2_.length ≤ co0_9_21_3 ∧ Sl H Ao0_9_21_3 yo0_9_21.files_.e2_ ∧ True) (fun B_ b_ => ?_) (fun B_ b_ => ?_)
     ·
      simp only [e_, Nat.reduceAdd, Nat.reduceBEq] at b_
      subst b_
      clear hr21_
      have hll21_ := Le.refl L17_
      have hhh21_ := Le.refl H17_
      refine W_block ?_
      refine W_seq_k fun K22 k22 => ?_
      refine W_region [28, 29, 7, none] rfl ?_
      refine ex_ h fun x23_ hx23_ h => ?_
      have ha23_ := (Sl.atN (n := 4) rfl (by decide) hs0 hx23_).1
      refine Exists.elim (Sl.atN (n := 4) rfl (by decide) hs0 hx23_).2 fun l23_ hA23_ => ?_
      have hr23_ := hA23_.1
      have hg23_ := hA23_.2
      clear hA23_
      refine Ops_step (R_indexSl Try.underlying22 sz31 rfl rfl hx23_.1 hx23_.lt ha23_) rfl rfl ?_
      obtain ⟨A23_1, c23_1, rfl, ⟨hc23_1, hs23_1⟩⟩ := hr23_
      refine Ops_step (R_loadCs (cs := [vi x23_.Op_, vi x23_.Label_, vi x23_.N_, .slice A23_1 x23_.B_.length c23_1]) ag31 sz31 rfl (fun j_ v_ hv_ => hI.st _ _ (hg23_ j_ v_ hv_))) rfl rfl ?_
      have hI0_ := hI
      refine Ops_to (R_alloc zr31) rfl rfl ?_
      rintro _ w24_ ⟨b24_, rfl, hb24_, hB24_, hF24_⟩
      replace hI := hI.fr0 hF24_
      replace hto1_9_17 := hto1_9_17.fr0 hF24_
      replace hto2_9_17 := hto2_9_17.fr0 hF24_
      replace hto0_9_17 := hto0_9_17.fr0 hF24_
      have ht24_ : Tok H17_ _ b24_ 31 ([vi 0, vi 0, vi 0, .slice none 0 0]) := ⟨hB24_.to rfl, Out.ge hI0_.st (Nat.le_of_eq hb24_.symm)⟩
      have hge_b24_ : w.heap.size ≤ b24_ := hb24_ ▸ hI0_.size
      clear hB24_ hb24_ hI0_ hF24_
      refine Ops_to0 (R_storeN sz31 rfl rfl rfl ht24_.blk (Nat.le_of_ble_eq_true rfl) rfl) rfl ?_
      rintro _ w25_ ⟨hB25_, hF25_⟩
      replace hI := hI.tok hF25_ (out1 ht24_.out) (new1 hge_b24_)
      replace hto1_9_17 := hto1_9_17.fr hF25_ (hto1_9_17.apart ht24_ (by decide))
      replace hto2_9_17 := hto2_9_17.fr hF25_ (hto2_9_17.neT ht24_)
      replace hto0_9_17 := hto0_9_17.fr hF25_ (hto0_9_17.apart ht24_ (by decide))
      replace ht24_ : Tok H17_ _ b24_ 31 ([vi x23_.Op_, vi x23_.Label_, vi x23_.N_, .slice A23_1 x23_.B_.length c23_1]) := ⟨hB25_, ht24_.out⟩
      clear hF25_ hB25_
      refine Ops_nil ?_
      refine then_n (k22 _ _ ?_)
      clear k22 K22
      refine W_seq_k fun K26 k26 => ?_
      refine W_region [30, 31, 32, 33] rfl (Ops_step (R_fieldAddr fo31_0 rfl) rfl rfl ?_)
      refine Ops_step (R_loadB (v := vi x23_.Op_) ag3 rfl ht24_.blk rfl) rfl rfl ?_
      refine Ops_step (R_and rfl rfl (andI_wrap _ _)) rfl rfl (Ops_step (R_eql rfl rfl) rfl rfl ?_)
      refine Ops_nil ?_
      refine then_n (k26 _ _ ?_)
      clear k26 K26
      refine W_keepB [4, 7, 24, 25, 26, 33] fun B_ b_ => ?_
      simp only [e_, Nat.reduceAdd, Nat.reduceBEq] at b_
      subst b_
      refine W_if rfl (fun hc28_ => ?_) (fun hc28_ => ?_)
      ·
       replace h := h.1 hc28_
       refine W_region [34, 35] rfl (Ops_step (R_move rfl) rfl rfl ?_)
       refine Ops_call (C_func bd14 rfl) rfl rfl ?_
       refine (journal_Journal_Check_ok (z0 := yo1_9_17) (z1 := yo2_9_17) (z2 := yo0_9_17) hI.st (hg.up hI.le) hto2_9_17 hto0_9_17 hco0_9_17_1 hso0_9_17_1 hco0_9_17_2 hso0_9_17_2 hco0_9_17_3 hso0_9_17_3 hto1_9_17 hco1_9_17_1 hso1_9_17_1 h).mono ?_
       rintro _ w29_ ⟨r29_0, y29_o0, A29_o0_1, c29_o0_1, y29_o2, A29_o2_1, c29_o2_1, A29_o2_2, c29_o2_2, A29_o2_3, c29_o2_3, L29_, H29_, rfl, hI29_, ht29_o0, hc29_o0_1, hs29_o0_1, ht29_o2, hc29_o2_1, hs29_o2_1, hc29_o2_2, hs29_o2_2, hc29_o2_3, hs29_o2_3, h⟩
       refine Exists.elim (hI.call hI29_ (memG hge_o1_9 (memG hge_o0_9 memN))) fun L290_ h29_ => ?_
       have hz29_ := hI.size
       replace hI := h29_.1
       have u29_ := h29_.2.1
       have hl29_ := h29_.2.2
       clear h29_
       replace hs0 := hs0.up u29_.hh
       replace hll15_ := hll15_.trans u29_.ll
       replace hhh15_ := hhh15_.trans u29_.hh
       replace hso1_9_17_1 := hso1_9_17_1.up u29_.hh
       replace hto2_9_17 := hto2_9_17.up u29_.hh u29_ (niA (hto2_9_17.neT hto1_9_17) (niA (hto2_9_17.neT hto0_9_17) List.not_mem_nil))
       replace hso0_9_17_1 := hso0_9_17_1.up u29_.hh
       replace hso0_9_17_2 := hso0_9_17_2.up u29_.hh
       replace hso0_9_17_3 := hso0_9_17_3.up u29_.hh
       replace hll17_ := hll17_.trans u29_.ll
       replace hhh17_ := hhh17_.trans u29_.hh
       replace hll21_ := hll21_.trans u29_.ll
       replace hhh21_ := hhh21_.trans u29_.hh
       clear hto1_9_17
       clear hto0_9_17
       clear hI29_ u29_ hl29_
       refine ⟨_, rfl, ?_⟩
       refine Ops_nil ?_
       refine block_n ?_
       refine then_n ?_
       exact ⟨_, rfl, ⟨y29_o0, A29_o0_1, c29_o0_1, yo2_9_17, y29_o2, A29_o2_1, c29_o2_1, A29_o2_2, c29_o2_2, A29_o2_3, c29_o2_3, _, _, rfl, h, hI, hll21_, hhh21_, ht29_o0, hc29_o0_1, hs29_o0_1, hto2_9_17, ht29_o2, hc29_o2_1, hs29_o2_1, hc29_o2_2, hs29_o2_2, hc29_o2_3, hs29_o2_3, trivial⟩, ⟨rfl, rfl, rfl, rfl, trivial⟩⟩
      ·
       replace h := h.2 hc28_
       refine W_region [36, 37, 38, 39, 40, 41] rfl (Ops_step (R_move rfl) rfl rfl (Ops_step (R_fieldAddr fo31_1 rfl) rfl rfl ?_))
       refine Ops_step (R_loadB (v := vi x23_.Label_) ag3 rfl ht24_.blk rfl) rfl rfl ?_
       refine Ops_step (R_fieldAddr fo31_3 rfl) rfl rfl ?_
       refine Ops_step (R_loadB (v := .slice A23_1 x23_.B_.length c23_1) ag29 rfl ht24_.blk rfl) rfl rfl ?_
       refine Ops_call (C_func bd15 rfl) rfl rfl ?_
       refine (journal_Journal_Put_ok (x1 := x23_.Label_) (x2 := x23_.B_) (z0 := yo1_9_17) (z1 := yo2_9_17) (z2 := yo0_9_17) hI.st (hg.up hI.le) hto2_9_17 hto0_9_17 hco0_9_17_1 hso0_9_17_1 hco0_9_17_2 hso0_9_17_2 hco0_9_17_3 hso0_9_17_3 hto1_9_17 hco1_9_17_1 hso1_9_17_1 hc23_1 hs23_1 h).mono ?_
       rintro _ w30_ ⟨r30_0, y30_o0, A30_o0_1, c30_o0_1, y30_o1, y30_o2, A30_o2_1, c30_o2_1, A30_o2_2, c30_o2_2, A30_o2_3, c30_o2_3, L30_, H30_, rfl, hI30_, ht30_o0, hc30_o0_1, hs30_o0_1, ht30_o1, ht30_o2, hc30_o2_1, hs30_o2_1, hc30_o2_2, hs30_o2_2, hc30_o2_3, hs30_o2_3, h⟩
       refine Exists.elim (hI.call hI30_ (memG hge_o1_9 (memG hge_o2_9 (memG hge_o0_9 memN)))) fun L300_ h30_ => ?_
       have hz30_ := hI.size
       replace hI := h30_.1
       have u30_ := h30_.2.1
       have hl30_ := h30_.2.2
       clear h30_
       replace hs0 := hs0.up u30_.hh
       replace hll15_ := hll15_.trans u30_.ll
       replace hhh15_ := hhh15_.trans u30_.hh
       replace hso1_9_17_1 := hso1_9_17_1.up u30_.hh
       replace hso0_9_17_1 := hso0_9_17_1.up u30_.hh
       replace hso0_9_17_2 := hso0_9_17_2.up u30_.hh
       replace hso0_9_17_3 := hso0_9_17_3.up u30_.hh
       replace hll17_ := hll17_.trans u30_.ll
       replace hhh17_ := hhh17_.trans u30_.hh
       replace hll21_ := hll21_.trans u30_.ll
       replace hhh21_ := hhh21_.trans u30_.hh
       clear hto1_9_17
       clear hto2_9_17
       clear hto0_9_17
       clear hI30_ u30_ hl30_
       refine ⟨_, rfl, ?_⟩
       refine Ops_nil ?_
       refine block_n ?_
       refine then_n ?_
       exact ⟨_, rfl, ⟨y30_o0, A30_o0_1, c30_o0_1, y30_o1, y30_o2, A30_o2_1, c30_o2_1, A30_o2_2, c30_o2_2, A30_o2_3, c30_o2_3, _, _, rfl, h, hI, hll21_, hhh21_, ht30_o0, hc30_o0_1, hs30_o0_1, ht30_o1, ht30_o2, hc30_o2_1, hs30_o2_1, hc30_o2_2, hs30_o2_2, hc30_o2_3, hs30_o2_3, trivial⟩, ⟨rfl, rfl, rfl, rfl, trivial⟩⟩
     ·
      simp only [e_, Nat.reduceAdd, Nat.reduceBEq] at b_
      subst b_
      clear h
      rintro _ w21_ ⟨yo1_9_21, Ao1_9_21_1, co1_9_21_1, yo2_9_21, yo0_9_21, Ao0_9_21_1, co0_9_21_1, Ao0_9_21_2, co0_9_21_2, Ao0_9_21_3, co0_9_21_3, L21_, H21_, rfl, hJ21_, hI21_, hll21_, hhh21_, hto1_9_21, hco1_9_21_1, hso1_9_21_1, hto2_9_21, hto0_9_21, hco0_9_21_1, hso0_9_21_1, hco0_9_21_2, hso0_9_21_2, hco0_9_21_3, hso0_9_21_3, -⟩
      replace hI := hI21_
      clear hI21_
      have h := hr21_ yo1_9_21 yo2_9_21 yo0_9_21 hJ21_
      clear hr21_ hJ21_
      replace hs0 := hs0.up hhh21_
      replace hll15_ := hll15_.trans hll21_
      replace hhh15_ := hhh15_.trans hhh21_
      replace hll17_ := hll17_.trans hll21_
      replace hhh17_ := hhh17_.trans hhh21_
      refine W_region [42, 26] rfl ?_
      have hk31_ := h.1
      replace h := h.2
      refine Ops_step (R_add rfl rfl (wI hk31_.1 hk31_.2)) rfl rfl (Ops_step (R_move rfl) rfl rfl ?_)
      refine Ops_nil ?_
      refine then_n ?_
      exact h.elim fun m_ h => ⟨m_, _, h.1, rfl, ⟨(x26_17 + 1), yo1_9_21, Ao1_9_21_1, co1_9_21_1, yo2_9_21, yo0_9_21, Ao0_9_21_1, co0_9_21_1, Ao0_9_21_2, co0_9_21_2, Ao0_9_21_3, co0_9_21_3, _, _, rfl, h.2, hI, hll17_, hhh17_, hto1_9_21, hco1_9_21_1, hso1_9_21_1, hto2_9_21, hto0_9_21, hco0_9_21_1, hso0_9_21_1, hco0_9_21_2, hso0_9_21_2, hco0_9_21_3, hso0_9_21_3, trivial⟩, ⟨rfl, rfl, rfl, trivial⟩⟩
    ·
     replace h := h.2 hc20_
     refine W_exit ?_
     refine then_exit ?_
     clear k19 K19
     refine then_exit ?_
     refine block_exit ?_
     refine then_n ?_
     exact ⟨_, rfl, ⟨yo1_9_17, Ao1_9_17_1, co1_9_17_1, yo2_9_17, yo0_9_17, Ao0_9_17_1, co0_9_17_1, Ao0_9_17_2, co0_9_17_2, Ao0_9_17_3, co0_9_17_3, _, _, rfl, h, hI, hll15_, hhh15_, hto1_9_17, hco1_9_17_1, hso1_9_17_1, hto2_9_17, hto0_9_17, hco0_9_17_1, hso0_9_17_1, hco0_9_17_2, hso0_9_17_2, hco0_9_17_3, hso0_9_17_3, trivial⟩, ⟨rfl, trivial⟩⟩
   ·
    simp only [e_, Nat.reduceAdd, Nat.reduceBEq] at b_
    subst b_
    clear h
    rintro _ w15_ ⟨yo1_9_15, Ao1_9_15_1, co1_9_15_1, yo2_9_15, yo0_9_15, Ao0_9_15_1, co0_9_15_1, Ao0_9_15_2, co0_9_15_2, Ao0_9_15_3, co0_9_15_3, L15_, H15_, rfl, hJ15_, hI15_, hll15_, hhh15_, hto1_9_15, hco1_9_15_1, hso1_9_15_1, hto2_9_15, hto0_9_15, hco0_9_15_1, hso0_9_15_1, hco0_9_15_2, hso0_9_15_2, hco0_9_15_3, hso0_9_15_3, -⟩
    replace hI := hI15_
    clear hI15_
    have h := hr15_ yo1_9_15 yo2_9_15 yo0_9_15 hJ15_
    clear hr15_ hJ15_
    refine W_seq_k fun K32 k32 => ?_
    refine W_region [8] rfl ?_
    have hI0_ := hI
    refine Ops_to (R_alloc zr35) rfl rfl ?_
    rintro _ w33_ ⟨b33_, rfl, hb33_, hB33_, hF33_⟩
    replace hI := hI.fr0 hF33_
    replace hto1_9_15 := hto1_9_15.fr0 hF33_
    replace hto2_9_15 := hto2_9_15.fr0 hF33_
    replace hto0_9_15 := hto0_9_15.fr0 hF33_
    have ht33_ : Tok H15_ _ b33_ 35 ((Arr.mk (n := 32) (List.replicate 32 0)).l.map vi) := ⟨hB33_.to (by first | (rw [List.map_replicate]; done) | (rw [List.map_replicate]; rfl)), Out.ge hI0_.st (Nat.le_of_eq hb33_.symm)⟩
    have hge_b33_ : w.heap.size ≤ b33_ := hb33_ ▸ hI0_.size
    clear hB33_ hb33_ hI0_ hF33_
    refine Ops_nil ?_
    refine then_n (k32 _ _ ?_)
    clear k32 K32
    refine ex_ h fun J34_ hr34_ h => ?_
    refine W_seq_join [4, 8] [] (fun vals_ w2 => ∃ (yb33__34 : Arr 32 Int) (L H : Gh), vals_ = [] ∧ J34_ yb33__34 ∧ Inv [] G w L H w2 ∧ Le L15_ L ∧ Le H15_ H ∧ Tok H w2 b33_ 35 (yb33__34.l.map vi) ∧ yb33__34.l.length = 32 ∧ Tok H w2 o1_9 46 ([.slice Ao1_9_15_1 yo1_9_15.book_.l_.length co1_9_15_1, .map (some o2_9), .pointer (some ⟨o0_9, 0, none⟩), vi yo1_9_15.gen_, vi yo1_9_15.place_]) ∧ MTok H H w2 o2_9 yo2_9_15 ∧ Tok H w2 o0_9 53 ([.slice Ao0_9_15_1 yo0_9_15.files_.e0_.length co0_9_15_1, .slice Ao0_9_15_2 yo0_9_15.files_.e1_.length co0_9_15_2, .slice Ao0_9_15_3 yo0_9_15.files_.e2_.length co0_9_15_3, vi yo0_9_15.room_, .bool yo0_9_15.off_, .bool yo0_9_15.armed_, vi yo0_9_15.left_]) ∧ True) (fun B_ b_ => ?_) (fun B_ b_ => ?_)
    ·
     simp only [e_, Nat.reduceAdd, Nat.reduceBEq] at b_
     subst b_
     clear hr34_
     have hll34_ := Le.refl L15_
     have hhh34_ := Le.refl H15_
     refine W_seq_k fun K35 k35 => ?_
     refine W_region [43, 44, 45, 46] rfl (Ops_step (R_move rfl) rfl rfl ?_)
     refine Ops_call (C_func bd16 rfl) rfl rfl ?_
     refine (sealskinlaw06_records_ok (z0 := yo1_9_15) (z1 := yo2_9_15) (z2 := yo0_9_15) hI.st (hg.up hI.le) hto2_9_15 hto0_9_15 hco0_9_15_1 hso0_9_15_1 hco0_9_15_2 hso0_9_15_2 hco0_9_15_3 hso0_9_15_3 hto1_9_15 hco1_9_15_1 hso1_9_15_1 h).mono ?_
     rintro _ w36_ ⟨A36_0, c36_0, r36_0, L36_, H36_, rfl, hI36_, ho36_0, h⟩
     refine Exists.elim (hI.call hI36_ (by simp)) fun L360_ h36_ => ?_
     have hz36_ := hI.size
     replace hI := h36_.1
     have u36_ := h36_.2.1
     have hl36_ := h36_.2.2
     clear h36_
     replace hto1_9_15 := hto1_9_15.up u36_ (by simp)
     replace hso1_9_15_1 := hso1_9_15_1.up u36_.hh
     replace hto2_9_15 := hto2_9_15.up u36_.hh u36_ (by simp)
     replace hto0_9_15 := hto0_9_15.up u36_ (by simp)
     replace hso0_9_15_1 := hso0_9_15_1.up u36_.hh
     replace hso0_9_15_2 := hso0_9_15_2.up u36_.hh
     replace hso0_9_15_3 := hso0_9_15_3.up u36_.hh
     replace ht33_ := ht33_.up u36_ (by simp)
     replace hll34_ := hll34_.trans u36_.ll
     replace hhh34_ := hhh34_.trans u36_.hh
     replace ho36_0 := OwnS.back ho36_0 hz36_ hl36_ (Le.refl _)
     clear hI36_ u36_ hl36_
     refine ⟨_, rfl, ?_⟩
     refine Exists.elim (ho36_0.freeze hI) fun L37_ h37_ => Exists.elim h37_ fun H37_ h37_ => ?_
     replace hI := h37_.1
     have u37_ := h37_.2.1
     have hs37_ := h37_.2.2.1 (Le.refl _)
     have hc37_ := ho36_0.cap
     replace hto1_9_15 := hto1_9_15.up u37_ (hto1_9_15.sep ho36_0 (by decide))
     replace hso1_9_15_1 := hso1_9_15_1.up u37_.hh
     replace hto2_9_15 := hto2_9_15.up u37_.hh u37_ (hto2_9_15.neO ho36_0)
     replace hto0_9_15 := hto0_9_15.up u37_ (hto0_9_15.sep ho36_0 (by decide))
     replace hso0_9_15_1 := hso0_9_15_1.up u37_.hh
     replace hso0_9_15_2 := hso0_9_15_2.up u37_.hh
     replace hso0_9_15_3 := hso0_9_15_3.up u37_.hh
     replace ht33_ := ht33_.up u37_ (ht33_.sep ho36_0 (by decide))
     replace hll34_ := hll34_.trans u37_.ll
     replace hhh34_ := hhh34_.trans u37_.hh
     clear h37_ u37_ ho36_0
     refine Ops_step (R_len Try.underlying36 rfl rfl) rfl rfl (Ops_step (R_move rfl) rfl rfl ?_)
     refine Ops_nil ?_
     refine then_n (k35 _ _ ?_)
     clear k35 K35
     refine W_block ?_
     refine Exists.elim h fun I38_ h => Exists.elim h fun n38_ h => ?_
     have h0_ := h.1
     have hs38_ := h.2
     clear h
     refine W_loopB [4, 8, 44, 45] [46] (fun m vals_ w2 => ∃ (x46_38 : Int) (yb33__38 : Arr 32 Int) (L H : Gh), vals_ = [vi x46_38] ∧ I38_ m x46_38 yb33__38 ∧ Inv [] G w L H w2 ∧ Le L37_ L ∧ Le H37_ H ∧ Tok H w2 b33_ 35 (yb33__38.l.map vi) ∧ yb33__38.l.length = 32 ∧ Tok H w2 o1_9 46 ([.slice Ao1_9_15_1 yo1_9_15.book_.l_.length co1_9_15_1, .map (some o2_9), .pointer (some ⟨o0_9, 0, none⟩), vi yo1_9_15.gen_, vi yo1_9_15.place_]) ∧ MTok H H w2 o2_9 yo2_9_15 ∧ Tok H w2 o0_9 53 ([.slice Ao0_9_15_1 yo0_9_15.files_.e0_.length co0_9_15_1, .slice Ao0_9_15_2 yo0_9_15.files_.e1_.length co0_9_15_2, .slice Ao0_9_15_3 yo0_9_15.files_.e2_.length co0_9_15_3, vi yo0_9_15.room_, .bool yo0_9_15.off_, .bool yo0_9_15.armed_, vi yo0_9_15.left_]) ∧ True) n38_ _ rfl ⟨0, (Arr.mk (n := 32) (List.replicate 32 0)), _, _, rfl, h0_, hI, Le.refl _, Le.refl _, ht33_, (List.length_replicate ..), hto1_9_15, hto2_9_15, hto0_9_15, trivial⟩ fun B_ b_ => ?_
     clear h0_
     simp only [e_, Nat.reduceAdd, Nat.reduceBEq] at b_
     subst b_
     clear hto0_9_15
     clear hto1_9_15
     clear hto2_9_15
     rintro m38_ _ w38_ ⟨x46_38, yb33__38, L38_, H38_, rfl, hJ38_, hI38_, hll38_, hhh38_, htb33__38, hnb33__38_, hto1_9_15, hto2_9_15, hto0_9_15, -⟩
     replace hI := hI38_
     clear hI38_
     have h := hs38_ m38_ x46_38 yb33__38 hJ38_
     clear hs38_ hJ38_
     replace hso1_9_15_1 := hso1_9_15_1.up hhh38_
     replace hso0_9_15_1 := hso0_9_15_1.up hhh38_
     replace hso0_9_15_2 := hso0_9_15_2.up hhh38_
     replace hso0_9_15_3 := hso0_9_15_3.up hhh38_
     replace hll34_ := hll34_.trans hll38_
     replace hhh34_ := hhh34_.trans hhh38_
     replace hs37_ := hs37_.up hll38_
     refine W_seq_k fun K39 k39 => ?_
     refine W_region [47] rfl (Ops_step (R_lss rfl rfl) rfl rfl ?_)
     refine Ops_nil ?_
     refine then_n (k39 _ _ ?_)
     clear k39 K39
     refine W_seq_k fun K40 k40 => ?_
     refine W_if rfl (fun hc41_ => ?_) (fun hc41_ => ?_)
     ·
      replace h := h.1 hc41_
      refine W_skip ?_
      refine then_n (k40 _ _ ?_)
      clear k40 K40
      refine W_seq_k fun K42 k42 => ?_
      refine W_block ?_
      refine W_seq_k fun K43 k43 => ?_
      refine W_region [48, 49, 10, none] rfl ?_
      refine ex_ h fun x44_ hx44_ h => ?_
      have ha44_ := (Sl.atN (n := 2) rfl (by decide) (hs37_.up hI.sub) hx44_).1
      refine Exists.elim (Sl.atN (n := 2) rfl (by decide) (hs37_.up hI.sub) hx44_).2 fun l44_ hA44_ => ?_
      have hr44_ := hA44_.1
      have hg44_ := hA44_.2
      clear hA44_
      refine Ops_step (R_indexSl Try.underlying36 sz39 rfl rfl hx44_.1 hx44_.lt ha44_) rfl rfl ?_
      replace hr44_ : l44_ = [vi x44_.Label_, vs x44_.Data_] := hr44_
      subst hr44_
      refine Ops_step (R_loadCs (cs := [vi x44_.Label_, vs x44_.Data_]) ag39 sz39 rfl (fun j_ v_ hv_ => hI.st _ _ (hg44_ j_ v_ hv_))) rfl rfl ?_
      have hI0_ := hI
      refine Ops_to (R_alloc zr39) rfl rfl ?_
      rintro _ w45_ ⟨b45_, rfl, hb45_, hB45_, hF45_⟩
      replace hI := hI.fr0 hF45_
      replace hto1_9_15 := hto1_9_15.fr0 hF45_
      replace hto2_9_15 := hto2_9_15.fr0 hF45_
      replace hto0_9_15 := hto0_9_15.fr0 hF45_
      replace htb33__38 := htb33__38.fr0 hF45_
      have ht45_ : Tok H38_ _ b45_ 39 ([vi 0, vs (Str.mk [])]) := ⟨hB45_.to rfl, Out.ge hI0_.st (Nat.le_of_eq hb45_.symm)⟩
      have hge_b45_ : w.heap.size ≤ b45_ := hb45_ ▸ hI0_.size
      clear hB45_ hb45_ hI0_ hF45_
      refine Ops_to0 (R_storeN sz39 rfl rfl rfl ht45_.blk (Nat.le_of_ble_eq_true rfl) rfl) rfl ?_
      rintro _ w46_ ⟨hB46_, hF46_⟩
      replace hI := hI.tok hF46_ (out1 ht45_.out) (new1 hge_b45_)
      replace hto1_9_15 := hto1_9_15.fr hF46_ (hto1_9_15.apart ht45_ (by decide))
      replace hto2_9_15 := hto2_9_15.fr hF46_ (hto2_9_15.neT ht45_)
      replace hto0_9_15 := hto0_9_15.fr hF46_ (hto0_9_15.apart ht45_ (by decide))
      replace htb33__38 := htb33__38.fr hF46_ (htb33__38.apart ht45_ (by decide))
      replace ht45_ : Tok H38_ _ b45_ 39 ([vi x44_.Label_, vs x44_.Data_]) := ⟨hB46_, ht45_.out⟩
      clear hF46_ hB46_
      refine Ops_nil ?_
      refine then_n (k43 _ _ ?_)
      clear k43 K43
      refine W_drawF [50, 51, 52, 53, 54, 55, 56, 57, 58, 59, none] [(0, true), (1, true), (2, true), (3, true), (4, true), (5, true), (6, true), (7, true), (8, true), (9, true), (10, false)] TJmCounts.hm rfl (by kernel_rfl) fun ops47_ w47_ hops47_ hF47_ => ?_
      replace hI := hI.fr0 hF47_
      replace hto1_9_15 := hto1_9_15.fr0 hF47_
      replace hto2_9_15 := hto2_9_15.fr0 hF47_
      replace hto0_9_15 := hto0_9_15.fr0 hF47_
      replace htb33__38 := htb33__38.fr0 hF47_
      replace ht45_ := ht45_.fr0 hF47_
      clear hF47_
      refine HSp (R_fieldAddr fo39_0 rfl) rfl rfl ?_
      refine HS_loadB (v := vi x44_.Label_) ag3 rfl ht45_.blk rfl rfl rfl ?_
      refine HSp (R_and rfl rfl (andI_wrap _ _)) rfl rfl ?_
      refine ex_ h fun x48_ hx48_ h => ?_
      refine HSp (R_indexArr Try.underlying35 sz3 rfl rfl hx48_.1 (hx48_.ltn hnb33__38_)) rfl rfl ?_
      refine HS_loadB ag3 rfl htb33__38.blk (arr_at hx48_) rfl rfl ?_
      refine HSp (R_fieldAddr fo39_1 rfl) rfl rfl ?_
      refine HS_loadB (v := vs x44_.Data_) ag9 rfl ht45_.blk rfl rfl rfl ?_
      refine HSp (X_lenStr (b := x44_.Data_) Try.underlying9 rfl rfl) rfl rfl ?_
      have hk49_ := h.1
      replace h := h.2
      refine HSp (R_add rfl rfl (wI hk49_.1 hk49_.2)) rfl rfl ?_
      refine ex_ h fun x50_ hx50_ h => ?_
      refine HSp (R_indexArr Try.underlying35 sz3 rfl rfl hx50_.1 (hx50_.ltn hnb33__38_)) rfl rfl ?_
      refine HS_to0 [] _ rfl (by rw [hops47_]; kernel_rfl) (R_store sz3 rfl rfl htb33__38.blk (arr_lt hx50_) rfl) rfl ?_
      rintro _ w51_ ⟨hB51_, hF51_⟩
      replace hI := hI.tok hF51_ (out1 htb33__38.out) (new1 hge_b33_)
      replace hto1_9_15 := hto1_9_15.fr hF51_ (hto1_9_15.apart htb33__38 (by decide))
      replace hto2_9_15 := hto2_9_15.fr hF51_ (hto2_9_15.neT htb33__38)
      replace hto0_9_15 := hto0_9_15.fr hF51_ (hto0_9_15.apart htb33__38 (by decide))
      replace ht45_ := ht45_.fr hF51_ (ht45_.apart htb33__38 (by decide))
      replace htb33__38 : Tok H38_ _ b33_ 35 ((Arr.mk (n := 32) (put yb33__38.l (andI x44_.Label_ 31) (x48_ + (x44_.Data_.b.length : Int)))).l.map vi) := ⟨hB51_.to arr_put, htb33__38.out⟩
      clear hF51_ hB51_
      refine ⟨trivial, ?_⟩
      refine HS_nil ?_
      clear hops47_
      refine block_n ?_
      refine then_n (k42 _ _ ?_)
      clear k42 K42
      refine W_keepB [4, 8, 44, 45, 46] fun B_ b_ => ?_
      simp only [e_, Nat.reduceAdd, Nat.reduceBEq] at b_
      subst b_
      refine W_region [60, 46] rfl ?_
      have hk53_ := h.1
      replace h := h.2
      refine Ops_step (R_add rfl rfl (wI hk53_.1 hk53_.2)) rfl rfl (Ops_step (R_move rfl) rfl rfl ?_)
      refine Ops_nil ?_
      refine then_n ?_
      exact h.elim fun m_ h => ⟨m_, _, h.1, rfl, ⟨(x46_38 + 1), (Arr.mk (n := 32) (put yb33__38.l (andI x44_.Label_ 31) (x48_ + (x44_.Data_.b.length : Int)))), _, _, rfl, h.2, hI, hll38_, hhh38_, htb33__38, (put_len hnb33__38_), hto1_9_15, hto2_9_15, hto0_9_15, trivial⟩, ⟨rfl, rfl, rfl, rfl, trivial⟩⟩
     ·
      replace h := h.2 hc41_
      refine W_exit ?_
      refine then_exit ?_
      clear k40 K40
      refine then_exit ?_
      refine block_exit ?_
      refine then_n ?_
      exact ⟨_, rfl, ⟨yb33__38, _, _, rfl, h, hI, hll34_, hhh34_, htb33__38, hnb33__38_, hto1_9_15, hto2_9_15, hto0_9_15, trivial⟩, ⟨rfl, rfl, trivial⟩⟩
    ·
     simp only [e_, Nat.reduceAdd, Nat.reduceBEq] at b_
     subst b_
     clear h
     clear hto0_9_15
     clear hto1_9_15
     clear hto2_9_15
     rintro _ w34_ ⟨yb33__34, L34_, H34_, rfl, hJ34_, hI34_, hll34_, hhh34_, htb33__34, hnb33__34_, hto1_9_15, hto2_9_15, hto0_9_15, -⟩
     replace hI := hI34_
     clear hI34_
     have h := hr34_ yb33__34 hJ34_
     clear hr34_ hJ34_
     replace hso1_9_15_1 := hso1_9_15_1.up hhh34_
     replace hso0_9_15_1 := hso0_9_15_1.up hhh34_
     replace hso0_9_15_2 := hso0_9_15_2.up hhh34_
     replace hso0_9_15_3 := hso0_9_15_3.up hhh34_
     refine ex_ h fun J54_ hr54_ h => ?_
     refine W_seq_join [4] [] (fun vals_ w2 => ∃  (L H : Gh), vals_ = [] ∧ J54_ ∧ Inv [] G w L H w2 ∧ Le L34_ L ∧ Le H34_ H ∧ Tok H w2 o1_9 46 ([.slice Ao1_9_15_1 yo1_9_15.book_.l_.length co1_9_15_1, .map (some o2_9), .pointer (some ⟨o0_9, 0, none⟩), vi yo1_9_15.gen_, vi yo1_9_15.place_]) ∧ MTok H H w2 o2_9 yo2_9_15 ∧ Tok H w2 o0_9 53 ([.slice Ao0_9_15_1 yo0_9_15.files_.e0_.length co0_9_15_1, .slice Ao0_9_15_2 yo0_9_15.files_.e1_.length co0_9_15_2, .slice Ao0_9_15_3 yo0_9_15.files_.e2_.length co0_9_15_3, vi yo0_9_15.room_, .bool yo0_9_15.off_, .bool yo0_9_15.armed_, vi yo0_9_15.left_]) ∧ True) (fun B_ b_ => ?_) (fun B_ b_ => ?_)
     ·
      simp only [e_, Nat.reduceAdd, Nat.reduceBEq] at b_
      subst b_
      clear hr54_
      have hll54_ := Le.refl L34_
      have hhh54_ := Le.refl H34_
      refine W_seq_k fun K55 k55 => ?_
      refine W_region [61, 62] rfl (Ops_step (R_loadW ag35 sz35 rfl htb33__34.blk (by rw [List.length_map]; exact hnb33__34_)) rfl rfl (Ops_step (R_move rfl) rfl rfl ?_))
      refine Ops_nil ?_
      refine then_n (k55 _ _ ?_)
      clear k55 K55
      refine W_block ?_
      refine Exists.elim h fun I56_ h => Exists.elim h fun n56_ h => ?_
      have h0_ := h.1
      have hs56_ := h.2
      clear h
      refine W_loopB [4, 61] [62] (fun m vals_ w2 => ∃ (x62_56 : Int) (L H : Gh), vals_ = [vi x62_56] ∧ I56_ m x62_56 ∧ Inv [] G w L H w2 ∧ Le L34_ L ∧ Le H34_ H ∧ Tok H w2 o1_9 46 ([.slice Ao1_9_15_1 yo1_9_15.book_.l_.length co1_9_15_1, .map (some o2_9), .pointer (some ⟨o0_9, 0, none⟩), vi yo1_9_15.gen_, vi yo1_9_15.place_]) ∧ MTok H H w2 o2_9 yo2_9_15 ∧ Tok H w2 o0_9 53 ([.slice Ao0_9_15_1 yo0_9_15.files_.e0_.length co0_9_15_1, .slice Ao0_9_15_2 yo0_9_15.files_.e1_.length co0_9_15_2, .slice Ao0_9_15_3 yo0_9_15.files_.e2_.length co0_9_15_3, vi yo0_9_15.room_, .bool yo0_9_15.off_, .bool yo0_9_15.armed_, vi yo0_9_15.left_]) ∧ True) n56_ _ rfl ⟨0, _, _, rfl, h0_, hI, Le.refl _, Le.refl _, hto1_9_15, hto2_9_15, hto0_9_15, trivial⟩ fun B_ b_ => ?_
      clear h0_
      simp only [e_, Nat.reduceAdd, Nat.reduceBEq] at b_
      subst b_
      clear hto0_9_15
      clear hto1_9_15
      clear hto2_9_15
      rintro m56_ _ w56_ ⟨x62_56, L56_, H56_, rfl, hJ56_, hI56_, hll56_, hhh56_, hto1_9_15, hto2_9_15, hto0_9_15, -⟩
      replace hI := hI56_
      clear hI56_
      have h := hs56_ m56_ x62_56 hJ56_
      clear hs56_ hJ56_
      replace hso1_9_15_1 := hso1_9_15_1.up hhh56_
      replace hso0_9_15_1 := hso0_9_15_1.up hhh56_
      replace hso0_9_15_2 := hso0_9_15_2.up hhh56_
      replace hso0_9_15_3 := hso0_9_15_3.up hhh56_
      replace hll54_ := hll54_.trans hll56_
      replace hhh54_ := hhh54_.trans hhh56_
      refine W_seq_k fun K57 k57 => ?_
      refine W_region [63] rfl (Ops_step (R_lss rfl rfl) rfl rfl ?_)
      refine Ops_nil ?_
      refine then_n (k57 _ _ ?_)
      clear k57 K57
      refine W_seq_k fun K58 k58 => ?_
      refine W_if rfl (fun hc59_ => ?_) (fun hc59_ => ?_)
      ·
       replace h := h.1 hc59_
       refine W_skip ?_
       refine then_n (k58 _ _ ?_)
       clear k58 K58
       refine W_seq_k fun K60 k60 => ?_
       refine W_block ?_
       refine W_seq_k fun K61 k61 => ?_
       refine W_region [64, 65, 11, 12] rfl (Ops_step (R_move rfl) rfl rfl ?_)
       refine ex_ h fun x62_ hx62_ h => ?_
       refine Ops_step (R_index Try.underlying35 sz3 ag3 rfl rfl hx62_.1 (hx62_.ltn hnb33__34_) (arr_at' hx62_)) rfl rfl (Ops_step (R_assign rfl) rfl rfl (Ops_step (R_assign rfl) rfl rfl ?_))
       refine Ops_nil ?_
       refine then_n (k61 _ _ ?_)
       clear k61 K61
       refine W_seq_k fun K63 k63 => ?_
       refine W_region [66, 67, 68, 69, 70] rfl (Ops_step (R_move rfl) rfl rfl (Ops_step (R_move rfl) rfl rfl ?_))
       refine Ops_call (C_func bd17 rfl) rfl rfl ?_
       refine (journal_Journal_Bytes_ok (x1 := x62_56) (z0 := yo1_9_15) (z1 := yo2_9_15) (z2 := yo0_9_15) hI.st (hg.up hI.le) hto2_9_15 hto0_9_15 hco0_9_15_1 hso0_9_15_1 hco0_9_15_2 hso0_9_15_2 hco0_9_15_3 hso0_9_15_3 hto1_9_15 hco1_9_15_1 hso1_9_15_1 h).mono ?_
       rintro _ w64_ ⟨r64_0, L64_, H64_, rfl, hI64_, h⟩
       refine Exists.elim (hI.call hI64_ (by simp)) fun L640_ h64_ => ?_
       have hz64_ := hI.size
       replace hI := h64_.1
       have u64_ := h64_.2.1
       have hl64_ := h64_.2.2
       clear h64_
       replace hso1_9_15_1 := hso1_9_15_1.up u64_.hh
       replace hso0_9_15_1 := hso0_9_15_1.up u64_.hh
       replace hso0_9_15_2 := hso0_9_15_2.up u64_.hh
       replace hso0_9_15_3 := hso0_9_15_3.up u64_.hh
       replace hll54_ := hll54_.trans u64_.ll
       replace hhh54_ := hhh54_.trans u64_.hh
       replace hto1_9_15 := hto1_9_15.up u64_ (by simp)
       replace hto2_9_15 := hto2_9_15.up u64_.hh u64_ (by simp)
       replace hto0_9_15 := hto0_9_15.up u64_ (by simp)
       replace hll56_ := hll56_.trans u64_.ll
       replace hhh56_ := hhh56_.trans u64_.hh
       clear hI64_ u64_ hl64_
       refine ⟨_, rfl, ?_⟩
       refine Ops_step (R_move rfl) rfl rfl (Ops_step (R_neq rfl rfl) rfl rfl ?_)
       refine Ops_nil ?_
       refine then_n (k63 _ _ ?_)
       clear k63 K63
       refine W_keepB [4, 61, 62, 70] fun B_ b_ => ?_
       simp only [e_, Nat.reduceAdd, Nat.reduceBEq] at b_
       subst b_
       refine W_if rfl (fun hc66_ => ?_) (fun hc66_ => ?_)
       ·
        replace h := h.1 hc66_
        refine W_seq_k fun K67 k67 => ?_
        refine W_region [2] rfl (Ops_step (R_assign rfl) rfl rfl ?_)
        refine Ops_nil ?_
        refine then_n (k67 _ _ ?_)
        clear k67 K67
        refine W_ret ?_
        refine block_ret ?_
        refine then_ret ?_
        clear k60 K60
        refine then_ret ?_
        refine block_ret ?_
        refine then_ret ?_
        refine ⟨_, ⟨_, _, rfl, rfl, rfl⟩, ?_⟩
        exact ⟨false, _, _, rfl, hI, h⟩
       ·
        replace h := h.2 hc66_
        refine W_skip ?_
        refine block_n ?_
        refine then_n (k60 _ _ ?_)
        clear k60 K60
        refine W_region [71, 62] rfl ?_
        have hk68_ := h.1
        replace h := h.2
        refine Ops_step (R_add rfl rfl (wI hk68_.1 hk68_.2)) rfl rfl (Ops_step (R_move rfl) rfl rfl ?_)
        refine Ops_nil ?_
        refine then_n ?_
        exact h.elim fun m_ h => ⟨m_, _, h.1, rfl, ⟨(x62_56 + 1), _, _, rfl, h.2, hI, hll56_, hhh56_, hto1_9_15, hto2_9_15, hto0_9_15, trivial⟩, ⟨rfl, rfl, trivial⟩⟩
      ·
       replace h := h.2 hc59_
       refine W_exit ?_
       refine then_exit ?_
       clear k58 K58
       refine then_exit ?_
       refine block_exit ?_
       refine then_n ?_
       exact ⟨_, rfl, ⟨_, _, rfl, h, hI, hll54_, hhh54_, hto1_9_15, hto2_9_15, hto0_9_15, trivial⟩, ⟨rfl, trivial⟩⟩
     ·
      simp only [e_, Nat.reduceAdd, Nat.reduceBEq] at b_
      subst b_
      clear h
      clear hto0_9_15
      clear hto1_9_15
      clear hto2_9_15
      rintro _ w54_ ⟨L54_, H54_, rfl, hJ54_, hI54_, hll54_, hhh54_, hto1_9_15, hto2_9_15, hto0_9_15, -⟩
      replace hI := hI54_
      clear hI54_
      have h := hr54_ hJ54_
      clear hr54_ hJ54_
      replace hso1_9_15_1 := hso1_9_15_1.up hhh54_
      replace hso0_9_15_1 := hso0_9_15_1.up hhh54_
      replace hso0_9_15_2 := hso0_9_15_2.up hhh54_
      replace hso0_9_15_3 := hso0_9_15_3.up hhh54_
      refine W_seq_k fun K69 k69 => ?_
      refine W_region [72, 73, 74, 75, 76, 77, 78, 79, 80, 81, 82, 2] rfl (Ops_step (R_move rfl) rfl rfl ?_)
      refine Ops_call (C_func bd17 rfl) rfl rfl ?_
      refine (journal_Journal_Bytes_ok (x1 := (-1)) (z0 := yo1_9_15) (z1 := yo2_9_15) (z2 := yo0_9_15) hI.st (hg.up hI.le) hto2_9_15 hto0_9_15 hco0_9_15_1 hso0_9_15_1 hco0_9_15_2 hso0_9_15_2 hco0_9_15_3 hso0_9_15_3 hto1_9_15 hco1_9_15_1 hso1_9_15_1 h).mono ?_
      rintro _ w70_ ⟨r70_0, L70_, H70_, rfl, hI70_, h⟩
      refine Exists.elim (hI.call hI70_ (by simp)) fun L700_ h70_ => ?_
      have hz70_ := hI.size
      replace hI := h70_.1
      have u70_ := h70_.2.1
      have hl70_ := h70_.2.2
      clear h70_
      replace hso1_9_15_1 := hso1_9_15_1.up u70_.hh
      replace hso0_9_15_1 := hso0_9_15_1.up u70_.hh
      replace hso0_9_15_2 := hso0_9_15_2.up u70_.hh
      replace hso0_9_15_3 := hso0_9_15_3.up u70_.hh
      replace hto1_9_15 := hto1_9_15.up u70_ (by simp)
      replace hto2_9_15 := hto2_9_15.up u70_.hh u70_ (by simp)
      replace hto0_9_15 := hto0_9_15.up u70_ (by simp)
      clear hI70_ u70_ hl70_
      refine ⟨_, rfl, ?_⟩
      refine Ops_step (R_eql rfl rfl) rfl rfl (Ops_step (R_move rfl) rfl rfl ?_)
      refine Ops_split 75 rfl (fun hg71_ => ?_) (fun hg71_ => ?_)
      ·
       replace h := h.1 hg71_
       refine Ops_step (R_move rfl) rfl rfl ?_
       refine Ops_call (C_func bd17 rfl) rfl rfl ?_
       refine (journal_Journal_Bytes_ok (x1 := 32) (z0 := yo1_9_15) (z1 := yo2_9_15) (z2 := yo0_9_15) hI.st (hg.up hI.le) hto2_9_15 hto0_9_15 hco0_9_15_1 hso0_9_15_1 hco0_9_15_2 hso0_9_15_2 hco0_9_15_3 hso0_9_15_3 hto1_9_15 hco1_9_15_1 hso1_9_15_1 h).mono ?_
       rintro _ w72_ ⟨r72_0, L72_, H72_, rfl, hI72_, h⟩
       refine Exists.elim (hI.call hI72_ (by simp)) fun L720_ h72_ => ?_
       have hz72_ := hI.size
       replace hI := h72_.1
       have u72_ := h72_.2.1
       have hl72_ := h72_.2.2
       clear h72_
       replace hso1_9_15_1 := hso1_9_15_1.up u72_.hh
       replace hso0_9_15_1 := hso0_9_15_1.up u72_.hh
       replace hso0_9_15_2 := hso0_9_15_2.up u72_.hh
       replace hso0_9_15_3 := hso0_9_15_3.up u72_.hh
       replace hto1_9_15 := hto1_9_15.up u72_ (by simp)
       replace hto2_9_15 := hto2_9_15.up u72_.hh u72_ (by simp)
       replace hto0_9_15 := hto0_9_15.up u72_ (by simp)
       clear hI72_ u72_ hl72_
       refine ⟨_, rfl, ?_⟩
       refine Ops_step (R_eql rfl rfl) rfl rfl (Ops_step (R_pick_true rfl rfl) rfl rfl (Ops_step (R_move rfl) rfl rfl ?_))
       refine Ops_split 80 rfl (fun hg73_ => ?_) (fun hg73_ => ?_)
       ·
        replace h := h.1 hg73_
        refine Ops_call (C_func bd12 rfl) rfl rfl ?_
        refine (sealskinlaw06_awake_ok  hI.st (hg.up hI.le)  h).mono ?_
        rintro _ w74_ ⟨r74_0, L74_, H74_, rfl, hI74_, h⟩
        refine Exists.elim (hI.call hI74_ (by simp)) fun L740_ h74_ => ?_
        have hz74_ := hI.size
        replace hI := h74_.1
        have u74_ := h74_.2.1
        have hl74_ := h74_.2.2
        clear h74_
        clear hI74_ u74_ hl74_
        refine ⟨_, rfl, ?_⟩
        refine Ops_step (R_pick_true rfl rfl) rfl rfl (Ops_step (R_assign rfl) rfl rfl ?_)
        refine Ops_nil ?_
        refine then_n (k69 _ _ ?_)
        clear k69 K69
        refine W_keepB [2] fun B_ b_ => ?_
        simp only [e_, Nat.reduceAdd, Nat.reduceBEq] at b_
        subst b_
        refine W_ret ?_
        refine ⟨_, ⟨_, _, rfl, rfl, rfl⟩, ?_⟩
        exact ⟨r74_0, _, _, rfl, hI, h⟩
       ·
        replace h := h.2 hg73_
        refine Ops_pass rfl rfl (Ops_step (R_pick_false rfl rfl) rfl rfl (Ops_step (R_assign rfl) rfl rfl ?_))
        refine Ops_nil ?_
        refine then_n (k69 _ _ ?_)
        clear k69 K69
        refine W_keepB [2] fun B_ b_ => ?_
        simp only [e_, Nat.reduceAdd, Nat.reduceBEq] at b_
        subst b_
        refine W_ret ?_
        refine ⟨_, ⟨_, _, rfl, rfl, rfl⟩, ?_⟩
        exact ⟨false, _, _, rfl, hI, h⟩
      ·
       replace h := h.2 hg71_
       refine Ops_pass rfl rfl (Ops_pass rfl rfl (Ops_pass rfl rfl (Ops_step (R_pick_false rfl rfl) rfl rfl (Ops_step (R_move rfl) rfl rfl ?_))))
       refine Ops_pass rfl rfl (Ops_step (R_pick_false rfl rfl) rfl rfl (Ops_step (R_assign rfl) rfl rfl ?_))
       refine Ops_nil ?_
       refine then_n (k69 _ _ ?_)
       clear k69 K69
       refine W_keepB [2] fun B_ b_ => ?_
       simp only [e_, Nat.reduceAdd, Nat.reduceBEq] at b_
       subst b_
       refine W_ret ?_
       refine ⟨_, ⟨_, _, rfl, rfl, rfl⟩, ?_⟩
       exact ⟨false, _, _, rfl, hI, h⟩

end Go.Proofs.Ytkmljjhjojolcaa

