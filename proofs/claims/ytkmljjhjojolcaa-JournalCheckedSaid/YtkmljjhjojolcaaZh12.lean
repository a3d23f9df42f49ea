/- What is shown of the program on the way to the law. -/
import Derived.Test.YtkmljjhjojolcaaZh3
import Derived.Test.YtkmljjhjojolcaaZh4
import Derived.Test.YtkmljjhjojolcaaZh5
import Derived.Test.YtkmljjhjojolcaaZh9
import Derived.Test.YtkmljjhjojolcaaZh10
import Derived.Test.YtkmljjhjojolcaaZh11
import Derived.Test.YtkmljjhjojolcaaProg
set_option linter.unusedVariables false
set_option linter.unusedSimpArgs false
set_option maxHeartbeats 4000000
namespace Go.Proofs.Ytkmljjhjojolcaa
open Go Go.Sx Go.Lx
namespace TJmChecked
theorem hm : Try.prog.follows .mixedOrders = true := by kernel_rfl
theorem ag29 : aggB Try.prog 29 = some false := by kernel_rfl
theorem ag3 : aggB Try.prog 3 = some false := by kernel_rfl
theorem ag31 : aggB Try.prog 31 = some true := by kernel_rfl
theorem bd11 : bodied Try.prog 11 = true := by kernel_rfl
theorem bd12 : bodied Try.prog 12 = true := by kernel_rfl
theorem bd13 : bodied Try.prog 13 = true := by kernel_rfl
theorem bd14 : bodied Try.prog 14 = true := by kernel_rfl
theorem bd15 : bodied Try.prog 15 = true := by kernel_rfl
theorem bd16 : bodied Try.prog 16 = true := by kernel_rfl
theorem bd20 : bodied Try.prog 20 = true := by kernel_rfl
theorem bd21 : bodied Try.prog 21 = true := by kernel_rfl
theorem bd22 : bodied Try.prog 22 = true := by kernel_rfl
theorem bd23 : bodied Try.prog 23 = true := by kernel_rfl
theorem bd31 : bodied Try.prog 31 = true := by kernel_rfl
theorem fo31_0 : offB Try.prog 31 0 = some 0 := by kernel_rfl
theorem fo31_1 : offB Try.prog 31 1 = some 1 := by kernel_rfl
theorem fo31_3 : offB Try.prog 31 3 = some 3 := by kernel_rfl
theorem sz31 : sz Try.prog 31 = some 4 := by kernel_rfl
theorem zr31 : zr Try.prog 31 = some ([.int .i64 0] ++ [.int .i64 0] ++ [.int .i64 0] ++ [.slice none 0 0]) := by kernel_rfl
end TJmChecked
open TJmChecked
theorem sealskinlaw06_JournalChecked_ok {G : Gh} {w : World} (hS : St G w) (hg : GL G) {A0 : Option Addr} {c0 : Nat} {x0 : List sealskinlaw06_Do} (hc0 : x0.length ≤ c0) (hs0 : Sl G A0 x0) {x1 : Int} {x2 : Int} {Q : Bool → Prop} (h : sealskinlaw06_JournalChecked x0 x1 x2 Q) : Calls Try.prog 8 #[.slice A0 x0.length c0, vi x1, vi x2] w fun e w2 => ∃ (r0 : Bool) (L H : Gh), e = .returned (.bool r0) ∧ Inv [] G w L H w2 ∧ Q r0 := by
 unfold sealskinlaw06_JournalChecked at h
 have hI := Inv.start (M := []) hS
 refine calls_W 91 Try.func8 rfl Try.ntmps8 rfl [.tmp 6] rfl ?_
 refine W_seq_k fun K1 k1 => ?_
 refine W_region [6] rfl (Ops_step (R_assign rfl) rfl rfl ?_)
 refine Ops_nil ?_
 refine then_n (k1 _ _ ?_)
 clear k1 K1
 refine W_seq_k fun K2 k2 => ?_
 refine W_seq_k fun K3 k3 => ?_
 refine W_region [15, 16, 17] rfl (Ops_step (R_move rfl) rfl rfl ?_)
 refine Ops_call (C_func bd11 rfl) rfl rfl ?_
 refine (sealskinlaw06_short_ok (x0 := x0) hI.st (hg.up hI.le) hc0 hs0 h).mono ?_
 rintro _ w4_ ⟨r4_0, L4_, H4_, rfl, hI4_, h⟩
 refine Exists.elim (hI.call hI4_ (by simp)) fun L40_ h4_ => ?_
 have hz4_ := hI.size
 replace hI := h4_.1
 have u4_ := h4_.2.1
 have hl4_ := h4_.2.2
 clear h4_
 replace hs0 := hs0.up u4_.hh
 clear hI4_ u4_ hl4_
 refine ⟨_, rfl, ?_⟩
 refine Ops_step (R_not rfl) rfl rfl ?_
 refine Ops_nil ?_
 refine then_n (k3 _ _ ?_)
 clear k3 K3
 refine W_cond rfl (fun hc5_ => ?_) (fun hc5_ => ?_)
 ·
  replace h := h.1 hc5_
  refine W_seq_k fun K6 k6 => ?_
  refine W_region [18, 6] rfl ?_
  refine Ops_call (C_func bd12 rfl) rfl rfl ?_
  refine (sealskinlaw06_awake_ok  hI.st (hg.up hI.le)  h).mono ?_
  rintro _ w7_ ⟨r7_0, L7_, H7_, rfl, hI7_, h⟩
  refine Exists.elim (hI.call hI7_ (by simp)) fun L70_ h7_ => ?_
  have hz7_ := hI.size
  replace hI := h7_.1
  have u7_ := h7_.2.1
  have hl7_ := h7_.2.2
  clear h7_
  clear hI7_ u7_ hl7_
  refine ⟨_, rfl, ?_⟩
  refine Ops_step (R_assign rfl) rfl rfl ?_
  refine Ops_nil ?_
  refine then_n (k6 _ _ ?_)
  clear k6 K6
  refine W_keepB [6] fun B_ b_ => ?_
  simp only [e_, Nat.reduceAdd, Nat.reduceBEq] at b_
  subst b_
  refine W_ret ?_
  refine then_ret ?_
  clear k2 K2
  refine ⟨_, ⟨_, _, rfl, rfl, rfl⟩, ?_⟩
  exact ⟨r7_0, _, _, rfl, hI, h⟩
 ·
  replace h := h.2 hc5_
  refine W_skip ?_
  refine then_n (k2 _ _ ?_)
  clear k2 K2
  refine W_seq_k fun K9 k9 => ?_
  refine W_region [20, 19, 21, 22, 23, 7, 8, 9] rfl ?_
  refine Ops_call (C_func bd13 rfl) rfl rfl ?_
  refine (sealskinlaw06_begun_ok  hI.st (hg.up hI.le)  h).mono ?_
  rintro _ w10_ ⟨r10_2, o0_10, y10_o0, A10_o0_1, c10_o0_1, A10_o0_2, c10_o0_2, A10_o0_3, c10_o0_3, o1_10, y10_o1, A10_o1_1, c10_o1_1, o2_10, y10_o2, L10_, H10_, rfl, hI10_, hge_o0_10, ht10_o0, hc10_o0_1, hs10_o0_1, hc10_o0_2, hs10_o0_2, hc10_o0_3, hs10_o0_3, hge_o1_10, ht10_o1, hc10_o1_1, hs10_o1_1, hge_o2_10, ht10_o2, h⟩
  have hge0_o0_10 := hge_o0_10
  replace hge_o0_10 := Nat.le_trans hI.size hge_o0_10
  have hge0_o1_10 := hge_o1_10
  replace hge_o1_10 := Nat.le_trans hI.size hge_o1_10
  have hge0_o2_10 := hge_o2_10
  replace hge_o2_10 := Nat.le_trans hI.size hge_o2_10
  refine Exists.elim (hI.call hI10_ (by simp)) fun L100_ h10_ => ?_
  have hz10_ := hI.size
  replace hI := h10_.1
  have u10_ := h10_.2.1
  have hl10_ := h10_.2.2
  clear h10_
  replace hs0 := hs0.up u10_.hh
  clear hI10_ u10_ hl10_
  refine ⟨_, rfl, ?_⟩
  refine Ops_step (R_move rfl) rfl rfl ?_
  refine Ops_step (R_extract (v := .pointer (some ⟨o0_10, 0, none⟩)) rfl rfl) rfl rfl ?_
  refine Ops_step (R_extract (v := .pointer (some ⟨o1_10, 0, none⟩)) rfl rfl) rfl rfl ?_
  refine Ops_step (R_extract (v := .bool r10_2) rfl rfl) rfl rfl ?_
  refine Ops_step (R_assign rfl) rfl rfl (Ops_step (R_assign rfl) rfl rfl (Ops_step (R_assign rfl) rfl rfl ?_))
  refine Ops_nil ?_
  refine then_n (k9 _ _ ?_)
  clear k9 K9
  refine W_keepB [0, 1, 2, 7, 8, 9] fun B_ b_ => ?_
  simp only [e_, Nat.reduceAdd, Nat.reduceBEq] at b_
  subst b_
  refine W_seq_k fun K12 k12 => ?_
  refine W_seq_k fun K13 k13 => ?_
  refine W_region [24, 25] rfl (Ops_step (R_move rfl) rfl rfl (Ops_step (R_not rfl) rfl rfl ?_))
  refine Ops_nil ?_
  refine then_n (k13 _ _ ?_)
  clear k13 K13
  refine W_cond rfl (fun hc14_ => ?_) (fun hc14_ => ?_)
  ·
   replace h := h.1 hc14_
   refine W_seq_k fun K15 k15 => ?_
   refine W_region [6] rfl (Ops_step (R_assign rfl) rfl rfl ?_)
   refine Ops_nil ?_
   refine then_n (k15 _ _ ?_)
   clear k15 K15
   refine W_keepB [6] fun B_ b_ => ?_
   simp only [e_, Nat.reduceAdd, Nat.reduceBEq] at b_
   subst b_
   refine W_ret ?_
   refine then_ret ?_
   clear k12 K12
   refine ⟨_, ⟨_, _, rfl, rfl, rfl⟩, ?_⟩
   exact ⟨false, _, _, rfl, hI, h⟩
  ·
   replace h := h.2 hc14_
   refine W_skip ?_
   refine then_n (k12 _ _ ?_)
   clear k12 K12
   refine ex_ h fun J17_ hr17_ h => ?_
   refine W_seq_join [1, 2, 7, 8] [] (fun vals_ w2 => ∃ (yo0_10_17 : disk_Disk) (Ao0_10_17_1 : Option Addr) (co0_10_17_1 : Nat) (Ao0_10_17_2 : Option Addr) (co0_10_17_2 : Nat) (Ao0_10_17_3 : Option Addr) (co0_10_17_3 : Nat) (yo1_10_17 : journal_Journal) (Ao1_10_17_1 : Option Addr) (co1_10_17_1 : Nat) (yo2_10_17 : List (Int × Int)) (L H : Gh), vals_ = [] ∧ J17_ yo0_10_17 yo1_10_17 yo2_10_17 ∧ Inv [] G w L H w2 ∧ Le L100_ L ∧ Le H10_ H ∧ Tok H w2 o0_10 53 ([.slice Ao0_10_17_1 yo0_10_17.files_.e0_.length co0_10_17_1, .slice Ao0_10_17_2 yo0_10_17.files_.e1_.length co0_10_17_2, .slice Ao0_10_17_3 yo0_10_17.files_.e2_.length co0_10_17_3, vi yo0_10_17.room_, .bool yo0_10_17.off_, .bool yo0_10_17.armed_, vi yo0_10_17.left_]) ∧ yo0_10_17.files_.e0_.length ≤ co0_10_17_1 ∧ Sl H Ao0_10_17_1 yo0_10_17.files_.e0_ ∧ yo0_10_17.files_.e1_.length ≤ co0_10_17_2 ∧ Sl H Ao0_10_17_2 yo0_10_17.files_.e1_ ∧ yo0_10_17.files_.e2_.length ≤ co0_10_17_3 ∧ Sl H Ao0_10_17_3 yo0_10_17.files_.e2_ ∧ Tok H w2 o1_10 46 ([.slice Ao1_10_17_1 yo1_10_17.book_.l_.length co1_10_17_1, .map (some o2_10), .pointer (some ⟨o0_10, 0, none⟩), vi yo1_10_17.gen_, vi yo1_10_17.place_]) ∧ yo1_10_17.book_.l_.length ≤ co1_10_17_1 ∧ Sl H Ao1_10_17_1 yo1_10_17.book_.l_ ∧ MTok H H w2 o2_10 yo2_10_17 ∧ True) (fun B_ b_ => ?_) (fun B_ b_ => ?_)
   ·
    simp only [e_, Nat.reduceAdd, Nat.reduceBEq] at b_
    subst b_
    clear hr17_
    have hll17_ := Le.refl L100_
    have hhh17_ := Le.refl H10_
    refine W_seq_k fun K18 k18 => ?_
    refine W_region [26, 27, 28] rfl (Ops_step (R_move rfl) rfl rfl (Ops_step (R_len Try.underlying22 rfl rfl) rfl rfl (Ops_step (R_move rfl) rfl rfl ?_)))
    refine Ops_nil ?_
    refine then_n (k18 _ _ ?_)
    clear k18 K18
    refine W_block ?_
    refine Exists.elim h fun I19_ h => Exists.elim h fun n19_ h => ?_
    have h0_ := h.1
    have hs19_ := h.2
    clear h
    refine W_loopB [1, 2, 7, 8, 26, 27] [28] (fun m vals_ w2 => ∃ (x28_19 : Int) (yo0_10_19 : disk_Disk) (Ao0_10_19_1 : Option Addr) (co0_10_19_1 : Nat) (Ao0_10_19_2 : Option Addr) (co0_10_19_2 : Nat) (Ao0_10_19_3 : Option Addr) (co0_10_19_3 : Nat) (yo1_10_19 : journal_Journal) (Ao1_10_19_1 : Option Addr) (co1_10_19_1 : Nat) (yo2_10_19 : List (Int × Int)) (L H : Gh), vals_ = [vi x28_19] ∧ I19_ m x28_19 yo0_10_19 yo1_10_19 yo2_10_19 ∧ Inv [] G w L H w2 ∧ Le L100_ L ∧ Le H10_ H ∧ Tok H w2 o0_10 53 ([.slice Ao0_10_19_1 yo0_10_19.files_.e0_.length co0_10_19_1, .slice Ao0_10_19_2 yo0_10_19.files_.e1_.length co0_10_19_2, .slice Ao0_10_19_3 yo0_10_19.files_.e2_.length co0_10_19_3, vi yo0_10_19.room_, .bool yo0_10_19.off_, .bool yo0_10_19.armed_, vi yo0_10_19.left_]) ∧ yo0_10_19.files_.e0_.length ≤ co0_10_19_1 ∧ Sl H Ao0_10_19_1 yo0_10_19.files_.e0_ ∧ yo0_10_19.files_.e1_.length ≤ co0_10_19_2 ∧ Sl H Ao0_10_19_2 yo0_10_19.files_.e1_ ∧ yo0_10_19.files_.e2_.length ≤ co0_10_19_3 ∧ Sl H Ao0_10_19_3 yo0_10_19.files_.e2_ ∧ Tok H w2 o1_10 46 ([.slice Ao1_10_19_1 yo1_10_19.book_.l_.length co1_10_19_1, .map (some o2_10), .pointer (some ⟨o0_10, 0, none⟩), vi yo1_10_19.gen_, vi yo1_10_19.place_]) ∧ yo1_10_19.book_.l_.length ≤ co1_10_19_1 ∧ Sl H Ao1_10_19_1 yo1_10_19.book_.l_ ∧ MTok H H w2 o2_10 yo2_10_19 ∧ True) n19_ _ rfl ⟨0, y10_o0, A10_o0_1, c10_o0_1, A10_o0_2, c10_o0_2, A10_o0_3, c10_o0_3, y10_o1, A10_o1_1, c10_o1_1, y10_o2, _, _, rfl, h0_, hI, Le.refl _, Le.refl _, ht10_o0, hc10_o0_1, hs10_o0_1, hc10_o0_2, hs10_o0_2, hc10_o0_3, hs10_o0_3, ht10_o1, hc10_o1_1, hs10_o1_1, ht10_o2, trivial⟩ fun B_ b_ => ?_
    clear h0_
    simp only [e_, Nat.reduceAdd, Nat.reduceBEq] at b_
    subst b_
    rintro m19_ _ w19_ ⟨x28_19, yo0_10_19, Ao0_10_19_1, co0_10_19_1, Ao0_10_19_2, co0_10_19_2, Ao0_10_19_3, co0_10_19_3, yo1_10_19, Ao1_10_19_1, co1_10_19_1, yo2_10_19, L19_, H19_, rfl, hJ19_, hI19_, hll19_, hhh19_, hto0_10_19, hco0_10_19_1, hso0_10_19_1, hco0_10_19_2, hso0_10_19_2, hco0_10_19_3, hso0_10_19_3, hto1_10_19, hco1_10_19_1, hso1_10_19_1, hto2_10_19, -⟩
    replace hI := hI19_
    clear hI19_
    have h := hs19_ m19_ x28_19 yo0_10_19 yo1_10_19 yo2_10_19 hJ19_
    clear hs19_ hJ19_
    replace hs0 := hs0.up hhh19_
    replace hll17_ := hll17_.trans hll19_
    replace hhh17_ := hhh17_.trans hhh19_
    refine W_seq_k fun K20 k20 => ?_
    refine W_region [29] rfl (Ops_step (R_lss rfl rfl) rfl rfl ?_)
    refine Ops_nil ?_
    refine then_n (k20 _ _ ?_)
    clear k20 K20
    refine W_seq_k fun K21 k21 => ?_
    refine W_if rfl (fun hc22_ => ?_) (fun hc22_ => ?_)
    ·
     replace h := h.1 hc22_
     refine W_skip ?_
     refine then_n (k21 _ _ ?_)
     clear k21 K21
     refine ex_ h fun J23_ hr23_ h => ?_
     refine W_seq_join [1, 2, 7, 8, 26, 27, 28] [] (fun vals_ w2 => ∃ (yo0_10_23 : disk_Disk) (Ao0_10_23_1 : Option Addr) (co0_10_23_1 : Nat) (Ao0_10_23_2 : Option Addr) (co0_10_23_2 : Nat) (Ao0_10_23_3 : Option Addr) (co0_10_23_3 : Nat) (yo1_10_23 : journal_Journal) (Ao1_10_23_1 : Option Addr) (co1_10_23_1 : Nat) (yo2_10_23 : List (Int × Int)) (L H : Gh), vals_ = [] ∧ J23_ yo0_10_23 yo1_10_23 yo2_10_23 ∧ Inv [] G w L H w2 ∧ Le L19_ L ∧ Le H19_ H ∧ Tok H w2 o0_10 53 ([.slice Ao0_10_23_1 yo0_10_23.files_.e0_.length co0_10_23_1, .slice Ao0_10_23_2 yo0_10_23.files_.e1_.length co0_10_23_2, .slice Ao0_10_23_3 yo0_10_23.files_.e2_.length co0_10_23_3, vi yo0_10_23.room_, .bool yo0_10_23.off_, .bool yo0_10_23.armed_, vi yo0_10_23.left_]) ∧ yo0_10_23.files_.e0_.length ≤ co0_10_23_1 ∧ Sl H Ao0_10_23_1 yo0_10_23.files_.e0_ ∧ yo0_10_23.files_.e1_.length ≤ co0_10_23_2 ∧ Sl H Ao0_10_23_2 yo0_10_23.files_.e1_ ∧ yo0_10_23.files_.e2_.length ≤ co0_10_23_3 ∧ Sl H Ao0_10_23_3 yo0_10_23.files_.e2_ ∧ Tok H w2 o1_10 46 ([.slice Ao1_10_23_1 yo1_10_23.book_.l_.length co1_10_23_1, .map (some o2_10), .pointer (some ⟨o0_10, 0, none⟩), vi yo1_10_23.gen_, vi yo1_10_23.place_]) ∧ yo1_10_23.book_.l_.length ≤ co1_10_23_1 ∧ Sl H Ao1_10_23_1 yo1_10_23.book_.l_ ∧ MTok H H w2 o2_10 yo2_10_23 ∧ True) (fun B_ b_ => ?_) (fun B_ b_ => ?_)
     ·
      simp only [e_, Nat.reduceAdd, Nat.reduceBEq] at b_
      subst b_
      clear hr23_
      have hll23_ := Le.refl L19_
      have hhh23_ := Le.refl H19_
      refine W_block ?_
      refine W_seq_k fun K24 k24 => ?_
      refine W_region [30, 31, 11, none] rfl ?_
      refine ex_ h fun x25_ hx25_ h => ?_
      have ha25_ := (Sl.atN (n := 4) rfl (by decide) hs0 hx25_).1
      refine Exists.elim (Sl.atN (n := 4) rfl (by decide) hs0 hx25_).2 fun l25_ hA25_ => ?_
      have hr25_ := hA25_.1
      have hg25_ := hA25_.2
      clear hA25_
      refine Ops_step (R_indexSl Try.underlying22 sz31 rfl rfl hx25_.1 hx25_.lt ha25_) rfl rfl ?_
      obtain ⟨A25_1, c25_1, rfl, ⟨hc25_1, hs25_1⟩⟩ := hr25_
      refine Ops_step (R_loadCs (cs := [vi x25_.Op_, vi x25_.Label_, vi x25_.N_, .slice A25_1 x25_.B_.length c25_1]) ag31 sz31 rfl (fun j_ v_ hv_ => hI.st _ _ (hg25_ j_ v_ hv_))) rfl rfl ?_
      have hI0_ := hI
      refine Ops_to (R_alloc zr31) rfl rfl ?_
      rintro _ w26_ ⟨b26_, rfl, hb26_, hB26_, hF26_⟩
      replace hI := hI.fr0 hF26_
      replace hto0_10_19 := hto0_10_19.fr0 hF26_
      replace hto1_10_19 := hto1_10_19.fr0 hF26_
      replace hto2_10_19 := hto2_10_19.fr0 hF26_
      have ht26_ : Tok H19_ _ b26_ 31 ([vi 0, vi 0, vi 0, .slice none 0 0]) := ⟨hB26_.to rfl, Out.ge hI0_.st (Nat.le_of_eq hb26_.symm)⟩
      have hge_b26_ : w.heap.size ≤ b26_ := hb26_ ▸ hI0_.size
      clear hB26_ hb26_ hI0_ hF26_
      refine Ops_to0 (R_storeN sz31 rfl rfl rfl ht26_.blk (Nat.le_of_ble_eq_true rfl) rfl) rfl ?_
      rintro _ w27_ ⟨hB27_, hF27_⟩
      replace hI := hI.tok hF27_ (out1 ht26_.out) (new1 hge_b26_)
      replace hto0_10_19 := hto0_10_19.fr hF27_ (hto0_10_19.apart ht26_ (by decide))
      replace hto1_10_19 := hto1_10_19.fr hF27_ (hto1_10_19.apart ht26_ (by decide))
      replace hto2_10_19 := hto2_10_19.fr hF27_ (hto2_10_19.neT ht26_)
      replace ht26_ : Tok H19_ _ b26_ 31 ([vi x25_.Op_, vi x25_.Label_, vi x25_.N_, .slice A25_1 x25_.B_.length c25_1]) := ⟨hB27_, ht26_.out⟩
      clear hF27_ hB27_
      refine Ops_nil ?_
      refine then_n (k24 _ _ ?_)
      clear k24 K24
      refine W_seq_k fun K28 k28 => ?_
      refine W_region [32, 33, 34, 35] rfl (Ops_step (R_fieldAddr fo31_0 rfl) rfl rfl ?_)
      refine Ops_step (R_loadB (v := vi x25_.Op_) ag3 rfl ht26_.blk rfl) rfl rfl ?_
      refine Ops_step (R_and rfl rfl (andI_wrap _ _)) rfl rfl (Ops_step (R_lss rfl rfl) rfl rfl ?_)
      refine Ops_nil ?_
      refine then_n (k28 _ _ ?_)
      clear k28 K28
      refine W_keepB [1, 2, 7, 8, 11, 26, 27, 28, 35] fun B_ b_ => ?_
      simp only [e_, Nat.reduceAdd, Nat.reduceBEq] at b_
      subst b_
      refine W_if rfl (fun hc30_ => ?_) (fun hc30_ => ?_)
      ·
       replace h := h.1 hc30_
       refine W_region [36, 37, 38, 39, 40, 41] rfl (Ops_step (R_move rfl) rfl rfl (Ops_step (R_fieldAddr fo31_1 rfl) rfl rfl ?_))
       refine Ops_step (R_loadB (v := vi x25_.Label_) ag3 rfl ht26_.blk rfl) rfl rfl ?_
       refine Ops_step (R_fieldAddr fo31_3 rfl) rfl rfl ?_
       refine Ops_step (R_loadB (v := .slice A25_1 x25_.B_.length c25_1) ag29 rfl ht26_.blk rfl) rfl rfl ?_
       refine Ops_call (C_func bd15 rfl) rfl rfl ?_
       refine (journal_Journal_Put_ok (x1 := x25_.Label_) (x2 := x25_.B_) (z0 := yo1_10_19) (z1 := yo2_10_19) (z2 := yo0_10_19) hI.st (hg.up hI.le) hto2_10_19 hto0_10_19 hco0_10_19_1 hso0_10_19_1 hco0_10_19_2 hso0_10_19_2 hco0_10_19_3 hso0_10_19_3 hto1_10_19 hco1_10_19_1 hso1_10_19_1 hc25_1 hs25_1 h).mono ?_
       rintro _ w31_ ⟨r31_0, y31_o0, A31_o0_1, c31_o0_1, y31_o1, y31_o2, A31_o2_1, c31_o2_1, A31_o2_2, c31_o2_2, A31_o2_3, c31_o2_3, L31_, H31_, rfl, hI31_, ht31_o0, hc31_o0_1, hs31_o0_1, ht31_o1, ht31_o2, hc31_o2_1, hs31_o2_1, hc31_o2_2, hs31_o2_2, hc31_o2_3, hs31_o2_3, h⟩
       refine Exists.elim (hI.call hI31_ (memG hge_o1_10 (memG hge_o2_10 (memG hge_o0_10 memN)))) fun L310_ h31_ => ?_
       have hz31_ := hI.size
       replace hI := h31_.1
       have u31_ := h31_.2.1
       have hl31_ := h31_.2.2
       clear h31_
       replace hs0 := hs0.up u31_.hh
       replace hll17_ := hll17_.trans u31_.ll
       replace hhh17_ := hhh17_.trans u31_.hh
       replace hso0_10_19_1 := hso0_10_19_1.up u31_.hh
       replace hso0_10_19_2 := hso0_10_19_2.up u31_.hh
       replace hso0_10_19_3 := hso0_10_19_3.up u31_.hh
       replace hso1_10_19_1 := hso1_10_19_1.up u31_.hh
       replace hll19_ := hll19_.trans u31_.ll
       replace hhh19_ := hhh19_.trans u31_.hh
       replace hll23_ := hll23_.trans u31_.ll
       replace hhh23_ := hhh23_.trans u31_.hh
       clear hto1_10_19
       clear hto2_10_19
       clear hto0_10_19
       clear hI31_ u31_ hl31_
       refine ⟨_, rfl, ?_⟩
       refine Ops_nil ?_
       refine block_n ?_
       refine then_n ?_
       exact ⟨_, rfl, ⟨y31_o2, A31_o2_1, c31_o2_1, A31_o2_2, c31_o2_2, A31_o2_3, c31_o2_3, y31_o0, A31_o0_1, c31_o0_1, y31_o1, _, _, rfl, h, hI, hll23_, hhh23_, ht31_o2, hc31_o2_1, hs31_o2_1, hc31_o2_2, hs31_o2_2, hc31_o2_3, hs31_o2_3, ht31_o0, hc31_o0_1, hs31_o0_1, ht31_o1, trivial⟩, ⟨rfl, rfl, rfl, rfl, rfl, rfl, rfl, trivial⟩⟩
      ·
       replace h := h.2 hc30_
       refine W_skip ?_
       refine block_n ?_
       refine then_n ?_
       exact ⟨_, rfl, ⟨yo0_10_19, Ao0_10_19_1, co0_10_19_1, Ao0_10_19_2, co0_10_19_2, Ao0_10_19_3, co0_10_19_3, yo1_10_19, Ao1_10_19_1, co1_10_19_1, yo2_10_19, _, _, rfl, h, hI, hll23_, hhh23_, hto0_10_19, hco0_10_19_1, hso0_10_19_1, hco0_10_19_2, hso0_10_19_2, hco0_10_19_3, hso0_10_19_3, hto1_10_19, hco1_10_19_1, hso1_10_19_1, hto2_10_19, trivial⟩, ⟨rfl, rfl, rfl, rfl, rfl, rfl, rfl, trivial⟩⟩
     ·
      simp only [e_, Nat.reduceAdd, Nat.reduceBEq] at b_
      subst b_
      clear h
      rintro _ w23_ ⟨yo0_10_23, Ao0_10_23_1, co0_10_23_1, Ao0_10_23_2, co0_10_23_2, Ao0_10_23_3, co0_10_23_3, yo1_10_23, Ao1_10_23_1, co1_10_23_1, yo2_10_23, L23_, H23_, rfl, hJ23_, hI23_, hll23_, hhh23_, hto0_10_23, hco0_10_23_1, hso0_10_23_1, hco0_10_23_2, hso0_10_23_2, hco0_10_23_3, hso0_10_23_3, hto1_10_23, hco1_10_23_1, hso1_10_23_1, hto2_10_23, -⟩
      replace hI := hI23_
      clear hI23_
      have h := hr23_ yo0_10_23 yo1_10_23 yo2_10_23 hJ23_
      clear hr23_ hJ23_
      replace hs0 := hs0.up hhh23_
      replace hll17_ := hll17_.trans hll23_
      replace hhh17_ := hhh17_.trans hhh23_
      replace hll19_ := hll19_.trans hll23_
      replace hhh19_ := hhh19_.trans hhh23_
      refine W_region [42, 28] rfl ?_
      have hk32_ := h.1
      replace h := h.2
      refine Ops_step (R_add rfl rfl (wI hk32_.1 hk32_.2)) rfl rfl (Ops_step (R_move rfl) rfl rfl ?_)
      refine Ops_nil ?_
      refine then_n ?_
      exact h.elim fun m_ h => ⟨m_, _, h.1, rfl, ⟨(x28_19 + 1), yo0_10_23, Ao0_10_23_1, co0_10_23_1, Ao0_10_23_2, co0_10_23_2, Ao0_10_23_3, co0_10_23_3, yo1_10_23, Ao1_10_23_1, co1_10_23_1, yo2_10_23, _, _, rfl, h.2, hI, hll19_, hhh19_, hto0_10_23, hco0_10_23_1, hso0_10_23_1, hco0_10_23_2, hso0_10_23_2, hco0_10_23_3, hso0_10_23_3, hto1_10_23, hco1_10_23_1, hso1_10_23_1, hto2_10_23, trivial⟩, ⟨rfl, rfl, rfl, rfl, rfl, rfl, trivial⟩⟩
    ·
     replace h := h.2 hc22_
     refine W_exit ?_
     refine then_exit ?_
     clear k21 K21
     refine then_exit ?_
     refine block_exit ?_
     refine then_n ?_
     exact ⟨_, rfl, ⟨yo0_10_19, Ao0_10_19_1, co0_10_19_1, Ao0_10_19_2, co0_10_19_2, Ao0_10_19_3, co0_10_19_3, yo1_10_19, Ao1_10_19_1, co1_10_19_1, yo2_10_19, _, _, rfl, h, hI, hll17_, hhh17_, hto0_10_19, hco0_10_19_1, hso0_10_19_1, hco0_10_19_2, hso0_10_19_2, hco0_10_19_3, hso0_10_19_3, hto1_10_19, hco1_10_19_1, hso1_10_19_1, hto2_10_19, trivial⟩, ⟨rfl, rfl, rfl, rfl, trivial⟩⟩
   ·
    simp only [e_, Nat.reduceAdd, Nat.reduceBEq] at b_
    subst b_
    clear h
    rintro _ w17_ ⟨yo0_10_17, Ao0_10_17_1, co0_10_17_1, Ao0_10_17_2, co0_10_17_2, Ao0_10_17_3, co0_10_17_3, yo1_10_17, Ao1_10_17_1, co1_10_17_1, yo2_10_17, L17_, H17_, rfl, hJ17_, hI17_, hll17_, hhh17_, hto0_10_17, hco0_10_17_1, hso0_10_17_1, hco0_10_17_2, hso0_10_17_2, hco0_10_17_3, hso0_10_17_3, hto1_10_17, hco1_10_17_1, hso1_10_17_1, hto2_10_17, -⟩
    replace hI := hI17_
    clear hI17_
    have h := hr17_ yo0_10_17 yo1_10_17 yo2_10_17 hJ17_
    clear hr17_ hJ17_
    refine W_seq_k fun K33 k33 => ?_
    refine W_region [43, 44, 12] rfl (Ops_step (R_move rfl) rfl rfl ?_)
    refine Ops_call (C_func bd16 rfl) rfl rfl ?_
    refine (sealskinlaw06_records_ok (z0 := yo1_10_17) (z1 := yo2_10_17) (z2 := yo0_10_17) hI.st (hg.up hI.le) hto2_10_17 hto0_10_17 hco0_10_17_1 hso0_10_17_1 hco0_10_17_2 hso0_10_17_2 hco0_10_17_3 hso0_10_17_3 hto1_10_17 hco1_10_17_1 hso1_10_17_1 h).mono ?_
    rintro _ w34_ ⟨A34_0, c34_0, r34_0, L34_, H34_, rfl, hI34_, ho34_0, h⟩
    refine Exists.elim (hI.call hI34_ (by simp)) fun L340_ h34_ => ?_
    have hz34_ := hI.size
    replace hI := h34_.1
    have u34_ := h34_.2.1
    have hl34_ := h34_.2.2
    clear h34_
    replace hto0_10_17 := hto0_10_17.up u34_ (by simp)
    replace hso0_10_17_1 := hso0_10_17_1.up u34_.hh
    replace hso0_10_17_2 := hso0_10_17_2.up u34_.hh
    replace hso0_10_17_3 := hso0_10_17_3.up u34_.hh
    replace hto1_10_17 := hto1_10_17.up u34_ (by simp)
    replace hso1_10_17_1 := hso1_10_17_1.up u34_.hh
    replace hto2_10_17 := hto2_10_17.up u34_.hh u34_ (by simp)
    replace ho34_0 := OwnS.back ho34_0 hz34_ hl34_ (Le.refl _)
    clear hI34_ u34_ hl34_
    refine ⟨_, rfl, ?_⟩
    refine Exists.elim (ho34_0.freeze hI) fun L35_ h35_ => Exists.elim h35_ fun H35_ h35_ => ?_
    replace hI := h35_.1
    have u35_ := h35_.2.1
    have hs35_ := h35_.2.2.1 (Le.refl _)
    have hc35_ := ho34_0.cap
    replace hto0_10_17 := hto0_10_17.up u35_ (hto0_10_17.sep ho34_0 (by decide))
    replace hso0_10_17_1 := hso0_10_17_1.up u35_.hh
    replace hso0_10_17_2 := hso0_10_17_2.up u35_.hh
    replace hso0_10_17_3 := hso0_10_17_3.up u35_.hh
    replace hto1_10_17 := hto1_10_17.up u35_ (hto1_10_17.sep ho34_0 (by decide))
    replace hso1_10_17_1 := hso1_10_17_1.up u35_.hh
    replace hto2_10_17 := hto2_10_17.up u35_.hh u35_ (hto2_10_17.neO ho34_0)
    clear h35_ u35_ ho34_0
    refine Ops_step (R_assign rfl) rfl rfl ?_
    refine Ops_nil ?_
    refine then_n (k33 _ _ ?_)
    clear k33 K33
    refine W_seq_k fun K36 k36 => ?_
    refine W_region [45, 46, 47, 48, 49, 50, 51] rfl (Ops_step (R_move rfl) rfl rfl (Ops_step (R_move rfl) rfl rfl (Ops_step (R_conv Try.underlying3 Try.underlying59 rfl (cI_64 _)) rfl rfl (Ops_step (R_rem rfl rfl (by decide) (rem64 (BitVec.ofInt 64 x1) (5000#64))) rfl rfl ?_))))
    have hk37_ := h.1
    replace h := h.2
    refine Ops_step (R_conv Try.underlying59 Try.underlying3 rfl (c64_I _ hk37_)) rfl rfl ?_
    have hk38_ := h.1
    replace h := h.2
    refine Ops_step (R_add rfl rfl (wI hk38_.1 hk38_.2)) rfl rfl ?_
    refine Ops_call (C_func bd21 rfl) rfl rfl ?_
    refine (disk_Disk_Arm_ok (x1 := (1 + (((BitVec.ofInt 64 x1) % (5000#64)).toNat : Int))) (z0 := yo0_10_17) hI.st (hg.up hI.le) hto0_10_17 hco0_10_17_1 hso0_10_17_1 hco0_10_17_2 hso0_10_17_2 hco0_10_17_3 hso0_10_17_3 h).mono ?_
    rintro _ w39_ ⟨r39_0, y39_o0, A39_o0_1, c39_o0_1, A39_o0_2, c39_o0_2, A39_o0_3, c39_o0_3, L39_, H39_, rfl, hI39_, ht39_o0, hc39_o0_1, hs39_o0_1, hc39_o0_2, hs39_o0_2, hc39_o0_3, hs39_o0_3, h⟩
    refine Exists.elim (hI.call hI39_ (new1 hge_o0_10)) fun L390_ h39_ => ?_
    have hz39_ := hI.size
    replace hI := h39_.1
    have u39_ := h39_.2.1
    have hl39_ := h39_.2.2
    clear h39_
    replace hso0_10_17_1 := hso0_10_17_1.up u39_.hh
    replace hso0_10_17_2 := hso0_10_17_2.up u39_.hh
    replace hso0_10_17_3 := hso0_10_17_3.up u39_.hh
    replace hto1_10_17 := hto1_10_17.up u39_ (hto1_10_17.apart hto0_10_17 (by decide))
    replace hso1_10_17_1 := hso1_10_17_1.up u39_.hh
    replace hto2_10_17 := hto2_10_17.up u39_.hh u39_ (hto2_10_17.neT hto0_10_17)
    replace hs35_ := hs35_.up u39_.ll
    clear hto0_10_17
    clear hI39_ u39_ hl39_
    refine ⟨_, rfl, ?_⟩
    refine Ops_nil ?_
    refine then_n (k36 _ _ ?_)
    clear k36 K36
    refine W_keepB [2, 7, 8, 12] fun B_ b_ => ?_
    simp only [e_, Nat.reduceAdd, Nat.reduceBEq] at b_
    subst b_
    refine W_seq_k fun K41 k41 => ?_
    refine W_region [52, 53] rfl (Ops_step (R_move rfl) rfl rfl ?_)
    refine Ops_call (C_func bd14 rfl) rfl rfl ?_
    refine (journal_Journal_Check_ok (z0 := yo1_10_17) (z1 := yo2_10_17) (z2 := y39_o0) hI.st (hg.up hI.le) hto2_10_17 ht39_o0 hc39_o0_1 hs39_o0_1 hc39_o0_2 hs39_o0_2 hc39_o0_3 hs39_o0_3 hto1_10_17 hco1_10_17_1 hso1_10_17_1 h).mono ?_
    rintro _ w42_ ⟨r42_0, y42_o0, A42_o0_1, c42_o0_1, y42_o2, A42_o2_1, c42_o2_1, A42_o2_2, c42_o2_2, A42_o2_3, c42_o2_3, L42_, H42_, rfl, hI42_, ht42_o0, hc42_o0_1, hs42_o0_1, ht42_o2, hc42_o2_1, hs42_o2_1, hc42_o2_2, hs42_o2_2, hc42_o2_3, hs42_o2_3, h⟩
    refine Exists.elim (hI.call hI42_ (memG hge_o1_10 (memG hge_o0_10 memN))) fun L420_ h42_ => ?_
    have hz42_ := hI.size
    replace hI := h42_.1
    have u42_ := h42_.2.1
    have hl42_ := h42_.2.2
    clear h42_
    replace hso1_10_17_1 := hso1_10_17_1.up u42_.hh
    replace hto2_10_17 := hto2_10_17.up u42_.hh u42_ (niA (hto2_10_17.neT hto1_10_17) (niA (hto2_10_17.neT ht39_o0) List.not_mem_nil))
    replace hs35_ := hs35_.up u42_.ll
    replace hs39_o0_1 := hs39_o0_1.up u42_.hh
    replace hs39_o0_2 := hs39_o0_2.up u42_.hh
    replace hs39_o0_3 := hs39_o0_3.up u42_.hh
    clear hto1_10_17
    clear ht39_o0
    clear hI42_ u42_ hl42_
    refine ⟨_, rfl, ?_⟩
    refine Ops_nil ?_
    refine then_n (k41 _ _ ?_)
    clear k41 K41
    refine W_seq_k fun K43 k43 => ?_
    refine W_region [54, 55] rfl (Ops_step (R_move rfl) rfl rfl ?_)
    refine Ops_call (C_func bd22 rfl) rfl rfl ?_
    refine (disk_Disk_Start_ok (z0 := y42_o2) hI.st (hg.up hI.le) ht42_o2 hc42_o2_1 hs42_o2_1 hc42_o2_2 hs42_o2_2 hc42_o2_3 hs42_o2_3 h).mono ?_
    rintro _ w44_ ⟨r44_0, y44_o0, A44_o0_1, c44_o0_1, A44_o0_2, c44_o0_2, A44_o0_3, c44_o0_3, L44_, H44_, rfl, hI44_, ht44_o0, hc44_o0_1, hs44_o0_1, hc44_o0_2, hs44_o0_2, hc44_o0_3, hs44_o0_3, h⟩
    refine Exists.elim (hI.call hI44_ (new1 hge_o0_10)) fun L440_ h44_ => ?_
    have hz44_ := hI.size
    replace hI := h44_.1
    have u44_ := h44_.2.1
    have hl44_ := h44_.2.2
    clear h44_
    replace hto2_10_17 := hto2_10_17.up u44_.hh u44_ (hto2_10_17.neT ht42_o2)
    replace hs35_ := hs35_.up u44_.ll
    replace ht42_o0 := ht42_o0.up u44_ (ht42_o0.apart ht42_o2 (by decide))
    replace hs42_o0_1 := hs42_o0_1.up u44_.hh
    replace hs42_o2_1 := hs42_o2_1.up u44_.hh
    replace hs42_o2_2 := hs42_o2_2.up u44_.hh
    replace hs42_o2_3 := hs42_o2_3.up u44_.hh
    clear ht42_o2
    clear hI44_ u44_ hl44_
    refine ⟨_, rfl, ?_⟩
    refine Ops_nil ?_
    refine then_n (k43 _ _ ?_)
    clear k43 K43
    refine W_seq_k fun K45 k45 => ?_
    refine W_region [56, 57, 58, 59, 60, 61, 62] rfl (Ops_step (R_move rfl) rfl rfl (Ops_step (R_move rfl) rfl rfl (Ops_step (R_conv Try.underlying3 Try.underlying59 rfl (cI_64 _)) rfl rfl (Ops_step (R_rem rfl rfl (by decide) (rem64 (BitVec.ofInt 64 x2) (5000#64))) rfl rfl ?_))))
    have hk46_ := h.1
    replace h := h.2
    refine Ops_step (R_conv Try.underlying59 Try.underlying3 rfl (c64_I _ hk46_)) rfl rfl ?_
    have hk47_ := h.1
    replace h := h.2
    refine Ops_step (R_add rfl rfl (wI hk47_.1 hk47_.2)) rfl rfl ?_
    refine Ops_call (C_func bd21 rfl) rfl rfl ?_
    refine (disk_Disk_Arm_ok (x1 := (1 + (((BitVec.ofInt 64 x2) % (5000#64)).toNat : Int))) (z0 := y44_o0) hI.st (hg.up hI.le) ht44_o0 hc44_o0_1 hs44_o0_1 hc44_o0_2 hs44_o0_2 hc44_o0_3 hs44_o0_3 h).mono ?_
    rintro _ w48_ ⟨r48_0, y48_o0, A48_o0_1, c48_o0_1, A48_o0_2, c48_o0_2, A48_o0_3, c48_o0_3, L48_, H48_, rfl, hI48_, ht48_o0, hc48_o0_1, hs48_o0_1, hc48_o0_2, hs48_o0_2, hc48_o0_3, hs48_o0_3, h⟩
    refine Exists.elim (hI.call hI48_ (new1 hge_o0_10)) fun L480_ h48_ => ?_
    have hz48_ := hI.size
    replace hI := h48_.1
    have u48_ := h48_.2.1
    have hl48_ := h48_.2.2
    clear h48_
    replace hto2_10_17 := hto2_10_17.up u48_.hh u48_ (hto2_10_17.neT ht44_o0)
    replace hs35_ := hs35_.up u48_.ll
    replace ht42_o0 := ht42_o0.up u48_ (ht42_o0.apart ht44_o0 (by decide))
    replace hs42_o0_1 := hs42_o0_1.up u48_.hh
    replace hs44_o0_1 := hs44_o0_1.up u48_.hh
    replace hs44_o0_2 := hs44_o0_2.up u48_.hh
    replace hs44_o0_3 := hs44_o0_3.up u48_.hh
    clear ht44_o0
    clear hI48_ u48_ hl48_
    refine ⟨_, rfl, ?_⟩
    refine Ops_nil ?_
    refine then_n (k45 _ _ ?_)
    clear k45 K45
    refine W_keepB [7, 8, 12] fun B_ b_ => ?_
    simp only [e_, Nat.reduceAdd, Nat.reduceBEq] at b_
    subst b_
    refine W_seq_k fun K50 k50 => ?_
    refine W_region [63, 64] rfl (Ops_step (R_move rfl) rfl rfl ?_)
    refine Ops_call (C_func bd20 rfl) rfl rfl ?_
    refine (journal_Open_ok (z0 := y48_o0) hI.st (hg.up hI.le) ht48_o0 hc48_o0_1 hs48_o0_1 hc48_o0_2 hs48_o0_2 hc48_o0_3 hs48_o0_3 h).mono ?_
    have hlo51_o1_10 := ht42_o0.blk.lt
    have hlo51_o2_10 := hto2_10_17.lt
    rintro _ w51_ (⟨r51a_1, y51a_o0, A51a_o0_1, c51a_o0_1, A51a_o0_2, c51a_o0_2, A51a_o0_3, c51a_o0_3, L51a_, H51a_, rfl, hI51a_, ht51a_o0, hc51a_o0_1, hs51a_o0_1, hc51a_o0_2, hs51a_o0_2, hc51a_o0_3, hs51a_o0_3, h⟩ | ⟨r51b_1, y51b_o0, A51b_o0_1, c51b_o0_1, A51b_o0_2, c51b_o0_2, A51b_o0_3, c51b_o0_3, o1_51b, y51b_o1, A51b_o1_1, c51b_o1_1, o2_51b, y51b_o2, L51b_, H51b_, rfl, hI51b_, ht51b_o0, hc51b_o0_1, hs51b_o0_1, hc51b_o0_2, hs51b_o0_2, hc51b_o0_3, hs51b_o0_3, hge_o1_51b, ht51b_o1, hc51b_o1_1, hs51b_o1_1, hge_o2_51b, ht51b_o2, h⟩)
    ·
     refine Exists.elim (hI.call hI51a_ (new1 hge_o0_10)) fun L51a0_ h51a_ => ?_
     have hz51a_ := hI.size
     replace hI := h51a_.1
     have u51a_ := h51a_.2.1
     have hl51a_ := h51a_.2.2
     clear h51a_
     replace hto2_10_17 := hto2_10_17.up u51a_.hh u51a_ (hto2_10_17.neT ht48_o0)
     replace hs35_ := hs35_.up u51a_.ll
     replace ht42_o0 := ht42_o0.up u51a_ (ht42_o0.apart ht48_o0 (by decide))
     replace hs42_o0_1 := hs42_o0_1.up u51a_.hh
     replace hs48_o0_1 := hs48_o0_1.up u51a_.hh
     replace hs48_o0_2 := hs48_o0_2.up u51a_.hh
     replace hs48_o0_3 := hs48_o0_3.up u51a_.hh
     clear ht48_o0
     clear hI51a_ u51a_ hl51a_
     refine ⟨_, rfl, ?_⟩
     refine Ops_nil ?_
     refine then_n (k50 _ _ ?_)
     clear k50 K50
     refine W_seq_k fun K52 k52 => ?_
     refine W_region [65, 66] rfl (Ops_step (R_move rfl) rfl rfl ?_)
     refine Ops_call (C_func bd22 rfl) rfl rfl ?_
     refine (disk_Disk_Start_ok (z0 := y51a_o0) hI.st (hg.up hI.le) ht51a_o0 hc51a_o0_1 hs51a_o0_1 hc51a_o0_2 hs51a_o0_2 hc51a_o0_3 hs51a_o0_3 h).mono ?_
     rintro _ w53_ ⟨r53_0, y53_o0, A53_o0_1, c53_o0_1, A53_o0_2, c53_o0_2, A53_o0_3, c53_o0_3, L53_, H53_, rfl, hI53_, ht53_o0, hc53_o0_1, hs53_o0_1, hc53_o0_2, hs53_o0_2, hc53_o0_3, hs53_o0_3, h⟩
     refine Exists.elim (hI.call hI53_ (new1 hge_o0_10)) fun L530_ h53_ => ?_
     have hz53_ := hI.size
     replace hI := h53_.1
     have u53_ := h53_.2.1
     have hl53_ := h53_.2.2
     clear h53_
     replace hto2_10_17 := hto2_10_17.up u53_.hh u53_ (hto2_10_17.neT ht51a_o0)
     replace hs35_ := hs35_.up u53_.ll
     replace ht42_o0 := ht42_o0.up u53_ (ht42_o0.apart ht51a_o0 (by decide))
     replace hs42_o0_1 := hs42_o0_1.up u53_.hh
     replace hs51a_o0_1 := hs51a_o0_1.up u53_.hh
     replace hs51a_o0_2 := hs51a_o0_2.up u53_.hh
     replace hs51a_o0_3 := hs51a_o0_3.up u53_.hh
     clear ht51a_o0
     clear hI53_ u53_ hl53_
     refine ⟨_, rfl, ?_⟩
     refine Ops_nil ?_
     refine then_n (k52 _ _ ?_)
     clear k52 K52
     refine W_seq_k fun K54 k54 => ?_
     refine W_region [67, 68] rfl (Ops_step (R_move rfl) rfl rfl ?_)
     refine Ops_call (C_func bd31 rfl) rfl rfl ?_
     refine (disk_Disk_Disarm_ok (z0 := y53_o0) hI.st (hg.up hI.le) ht53_o0 hc53_o0_1 hs53_o0_1 hc53_o0_2 hs53_o0_2 hc53_o0_3 hs53_o0_3 h).mono ?_
     rintro _ w55_ ⟨r55_0, y55_o0, A55_o0_1, c55_o0_1, A55_o0_2, c55_o0_2, A55_o0_3, c55_o0_3, L55_, H55_, rfl, hI55_, ht55_o0, hc55_o0_1, hs55_o0_1, hc55_o0_2, hs55_o0_2, hc55_o0_3, hs55_o0_3, h⟩
     refine Exists.elim (hI.call hI55_ (new1 hge_o0_10)) fun L550_ h55_ => ?_
     have hz55_ := hI.size
     replace hI := h55_.1
     have u55_ := h55_.2.1
     have hl55_ := h55_.2.2
     clear h55_
     replace hto2_10_17 := hto2_10_17.up u55_.hh u55_ (hto2_10_17.neT ht53_o0)
     replace hs35_ := hs35_.up u55_.ll
     replace ht42_o0 := ht42_o0.up u55_ (ht42_o0.apart ht53_o0 (by decide))
     replace hs42_o0_1 := hs42_o0_1.up u55_.hh
     replace hs53_o0_1 := hs53_o0_1.up u55_.hh
     replace hs53_o0_2 := hs53_o0_2.up u55_.hh
     replace hs53_o0_3 := hs53_o0_3.up u55_.hh
     clear ht53_o0
     clear hI55_ u55_ hl55_
     refine ⟨_, rfl, ?_⟩
     refine Ops_nil ?_
     refine then_n (k54 _ _ ?_)
     clear k54 K54
     refine W_keepB [7, 8, 12] fun B_ b_ => ?_
     simp only [e_, Nat.reduceAdd, Nat.reduceBEq] at b_
     subst b_
     refine W_seq_k fun K57 k57 => ?_
     refine W_region [70, 71, 69, 72, 73, 13, 14] rfl (Ops_step (R_move rfl) rfl rfl ?_)
     refine Ops_call (C_func bd20 rfl) rfl rfl ?_
     refine (journal_Open_ok (z0 := y55_o0) hI.st (hg.up hI.le) ht55_o0 hc55_o0_1 hs55_o0_1 hc55_o0_2 hs55_o0_2 hc55_o0_3 hs55_o0_3 h).mono ?_
     have hlo58_o1_10 := ht42_o0.blk.lt
     have hlo58_o2_10 := hto2_10_17.lt
     rintro _ w58_ (⟨r58a_1, y58a_o0, A58a_o0_1, c58a_o0_1, A58a_o0_2, c58a_o0_2, A58a_o0_3, c58a_o0_3, L58a_, H58a_, rfl, hI58a_, ht58a_o0, hc58a_o0_1, hs58a_o0_1, hc58a_o0_2, hs58a_o0_2, hc58a_o0_3, hs58a_o0_3, h⟩ | ⟨r58b_1, y58b_o0, A58b_o0_1, c58b_o0_1, A58b_o0_2, c58b_o0_2, A58b_o0_3, c58b_o0_3, o1_58b, y58b_o1, A58b_o1_1, c58b_o1_1, o2_58b, y58b_o2, L58b_, H58b_, rfl, hI58b_, ht58b_o0, hc58b_o0_1, hs58b_o0_1, hc58b_o0_2, hs58b_o0_2, hc58b_o0_3, hs58b_o0_3, hge_o1_58b, ht58b_o1, hc58b_o1_1, hs58b_o1_1, hge_o2_58b, ht58b_o2, h⟩)
     ·
      refine Exists.elim (hI.call hI58a_ (new1 hge_o0_10)) fun L58a0_ h58a_ => ?_
      have hz58a_ := hI.size
      replace hI := h58a_.1
      have u58a_ := h58a_.2.1
      have hl58a_ := h58a_.2.2
      clear h58a_
      replace hto2_10_17 := hto2_10_17.up u58a_.hh u58a_ (hto2_10_17.neT ht55_o0)
      replace hs35_ := hs35_.up u58a_.ll
      replace ht42_o0 := ht42_o0.up u58a_ (ht42_o0.apart ht55_o0 (by decide))
      replace hs42_o0_1 := hs42_o0_1.up u58a_.hh
      replace hs55_o0_1 := hs55_o0_1.up u58a_.hh
      replace hs55_o0_2 := hs55_o0_2.up u58a_.hh
      replace hs55_o0_3 := hs55_o0_3.up u58a_.hh
      clear ht55_o0
      clear hI58a_ u58a_ hl58a_
      refine ⟨_, rfl, ?_⟩
      refine Ops_step (R_move rfl) rfl rfl ?_
      refine Ops_step (R_extract (v := .pointer none) rfl rfl) rfl rfl ?_
      refine Ops_step (R_extract (v := vi r58a_1) rfl rfl) rfl rfl ?_
      refine Ops_step (R_assign rfl) rfl rfl (Ops_step (R_assign rfl) rfl rfl ?_)
      refine Ops_nil ?_
      refine then_n (k57 _ _ ?_)
      clear k57 K57
      refine W_keepB [8, 12, 13, 14] fun B_ b_ => ?_
      simp only [e_, Nat.reduceAdd, Nat.reduceBEq] at b_
      subst b_
      refine W_seq_k fun K60 k60 => ?_
      refine W_region [74, 75, 76, 77, 78, 79, 80, 81, 82, 83, 84, 85, 86, 87, 88, 89, 90, 6] rfl (Ops_step (R_move rfl) rfl rfl (Ops_step (R_eql rfl rfl) rfl rfl (Ops_step (R_move rfl) rfl rfl ?_)))
      refine Ops_split 76 rfl (fun hg61_ => ?_) (fun hg61_ => ?_)
      ·
       replace h := h.1 hg61_
       refine Ops_step (R_move rfl) rfl rfl ?_
       refine Ops_call (C_func bd16 rfl) rfl rfl ?_
       refine (sealskinlaw06_records_v1_ok  hI.st (hg.up hI.le)  h).mono ?_
       rintro _ w62_ ⟨A62_0, c62_0, r62_0, L62_, H62_, rfl, hI62_, ho62_0, h⟩
       refine Exists.elim (hI.call hI62_ (by simp)) fun L620_ h62_ => ?_
       have hz62_ := hI.size
       replace hI := h62_.1
       have u62_ := h62_.2.1
       have hl62_ := h62_.2.2
       clear h62_
       replace hto2_10_17 := hto2_10_17.up u62_.hh u62_ (by simp)
       replace hs35_ := hs35_.up u62_.ll
       replace ht42_o0 := ht42_o0.up u62_ (by simp)
       replace hs42_o0_1 := hs42_o0_1.up u62_.hh
       replace ht58a_o0 := ht58a_o0.up u62_ (by simp)
       replace hs58a_o0_1 := hs58a_o0_1.up u62_.hh
       replace hs58a_o0_2 := hs58a_o0_2.up u62_.hh
       replace hs58a_o0_3 := hs58a_o0_3.up u62_.hh
       replace ho62_0 := OwnS.back ho62_0 hz62_ hl62_ (Le.refl _)
       clear hI62_ u62_ hl62_
       refine ⟨_, rfl, ?_⟩
       refine Exists.elim (ho62_0.freeze hI) fun L63_ h63_ => Exists.elim h63_ fun H63_ h63_ => ?_
       replace hI := h63_.1
       have u63_ := h63_.2.1
       have hs63_ := h63_.2.2.1 (Le.refl _)
       have hc63_ := ho62_0.cap
       replace hto2_10_17 := hto2_10_17.up u63_.hh u63_ (hto2_10_17.neO ho62_0)
       replace hs35_ := hs35_.up u63_.ll
       replace ht42_o0 := ht42_o0.up u63_ (ht42_o0.sep ho62_0 (by decide))
       replace hs42_o0_1 := hs42_o0_1.up u63_.hh
       replace ht58a_o0 := ht58a_o0.up u63_ (ht58a_o0.sep ho62_0 (by decide))
       replace hs58a_o0_1 := hs58a_o0_1.up u63_.hh
       replace hs58a_o0_2 := hs58a_o0_2.up u63_.hh
       replace hs58a_o0_3 := hs58a_o0_3.up u63_.hh
       clear h63_ u63_ ho62_0
       refine Ops_step (R_move rfl) rfl rfl ?_
       refine Ops_call (C_func bd23 rfl) rfl rfl ?_
       refine (slices_Equal_sealskinref06_Record_sealskinref06_Record_ok (x0 := r62_0) (x1 := r34_0) hI.st (hg.up hI.le) hc63_ (hs63_.up hI.sub) hc35_ (hs35_.up hI.sub) h).mono ?_
       rintro _ w64_ ⟨r64_0, L64_, H64_, rfl, hI64_, h⟩
       refine Exists.elim (hI.call hI64_ (by simp)) fun L640_ h64_ => ?_
       have hz64_ := hI.size
       replace hI := h64_.1
       have u64_ := h64_.2.1
       have hl64_ := h64_.2.2
       clear h64_
       replace hto2_10_17 := hto2_10_17.up u64_.hh u64_ (by simp)
       replace hs35_ := hs35_.up u64_.ll
       replace ht42_o0 := ht42_o0.up u64_ (by simp)
       replace hs42_o0_1 := hs42_o0_1.up u64_.hh
       replace ht58a_o0 := ht58a_o0.up u64_ (by simp)
       replace hs58a_o0_1 := hs58a_o0_1.up u64_.hh
       replace hs58a_o0_2 := hs58a_o0_2.up u64_.hh
       replace hs58a_o0_3 := hs58a_o0_3.up u64_.hh
       clear hI64_ u64_ hl64_
       refine ⟨_, rfl, ?_⟩
       refine Ops_step (R_pick_true rfl rfl) rfl rfl (Ops_step (R_move rfl) rfl rfl ?_)
       refine Ops_splitB 82 rfl (fun hg65_ => ?_) (fun hg65_ => ?_)
       ·
        replace h := h.1 hg65_
        refine Ops_step (R_move rfl) rfl rfl ?_
        refine Ops_call (C_func bd16 rfl) rfl rfl ?_
        refine (sealskinlaw06_records_ok (z0 := y42_o0) (z1 := yo2_10_17) (z2 := y58a_o0) hI.st (hg.up hI.le) hto2_10_17 ht58a_o0 hc58a_o0_1 hs58a_o0_1 hc58a_o0_2 hs58a_o0_2 hc58a_o0_3 hs58a_o0_3 ht42_o0 hc42_o0_1 hs42_o0_1 h).mono ?_
        rintro _ w66_ ⟨A66_0, c66_0, r66_0, L66_, H66_, rfl, hI66_, ho66_0, h⟩
        refine Exists.elim (hI.call hI66_ (by simp)) fun L660_ h66_ => ?_
        have hz66_ := hI.size
        replace hI := h66_.1
        have u66_ := h66_.2.1
        have hl66_ := h66_.2.2
        clear h66_
        replace hto2_10_17 := hto2_10_17.up u66_.hh u66_ (by simp)
        replace hs35_ := hs35_.up u66_.ll
        replace ht42_o0 := ht42_o0.up u66_ (by simp)
        replace hs42_o0_1 := hs42_o0_1.up u66_.hh
        replace ht58a_o0 := ht58a_o0.up u66_ (by simp)
        replace hs58a_o0_1 := hs58a_o0_1.up u66_.hh
        replace hs58a_o0_2 := hs58a_o0_2.up u66_.hh
        replace hs58a_o0_3 := hs58a_o0_3.up u66_.hh
        replace ho66_0 := OwnS.back ho66_0 hz66_ hl66_ (Le.refl _)
        clear hI66_ u66_ hl66_
        refine ⟨_, rfl, ?_⟩
        refine Exists.elim (ho66_0.freeze hI) fun L67_ h67_ => Exists.elim h67_ fun H67_ h67_ => ?_
        replace hI := h67_.1
        have u67_ := h67_.2.1
        have hs67_ := h67_.2.2.1 (Le.refl _)
        have hc67_ := ho66_0.cap
        replace hs35_ := hs35_.up u67_.ll
        clear h67_ u67_ ho66_0
        refine Ops_step (R_move rfl) rfl rfl ?_
        refine Ops_call (C_func bd23 rfl) rfl rfl ?_
        refine (slices_Equal_sealskinref06_Record_sealskinref06_Record_ok (x0 := r66_0) (x1 := r34_0) hI.st (hg.up hI.le) hc67_ (hs67_.up hI.sub) hc35_ (hs35_.up hI.sub) h).mono ?_
        rintro _ w68_ ⟨r68_0, L68_, H68_, rfl, hI68_, h⟩
        refine Exists.elim (hI.call hI68_ (by simp)) fun L680_ h68_ => ?_
        have hz68_ := hI.size
        replace hI := h68_.1
        have u68_ := h68_.2.1
        have hl68_ := h68_.2.2
        clear h68_
        clear hI68_ u68_ hl68_
        refine ⟨_, rfl, ?_⟩
        refine Ops_step (R_pick_true rfl rfl) rfl rfl (Ops_step (R_move rfl) rfl rfl ?_)
        refine Ops_splitB 88 rfl (fun hg69_ => ?_) (fun hg69_ => ?_)
        ·
         replace h := h.1 hg69_
         refine Ops_call (C_func bd12 rfl) rfl rfl ?_
         refine (sealskinlaw06_awake_ok  hI.st (hg.up hI.le)  h).mono ?_
         rintro _ w70_ ⟨r70_0, L70_, H70_, rfl, hI70_, h⟩
         refine Exists.elim (hI.call hI70_ (by simp)) fun L700_ h70_ => ?_
         have hz70_ := hI.size
         replace hI := h70_.1
         have u70_ := h70_.2.1
         have hl70_ := h70_.2.2
         clear h70_
         clear hI70_ u70_ hl70_
         refine ⟨_, rfl, ?_⟩
         refine Ops_step (R_pick_true rfl rfl) rfl rfl (Ops_step (R_assign rfl) rfl rfl ?_)
         refine Ops_nil ?_
         refine then_n (k60 _ _ ?_)
         clear k60 K60
         refine W_keepB [6] fun B_ b_ => ?_
         simp only [e_, Nat.reduceAdd, Nat.reduceBEq] at b_
         subst b_
         refine W_ret ?_
         refine ⟨_, ⟨_, _, rfl, rfl, rfl⟩, ?_⟩
         exact ⟨r70_0, _, _, rfl, hI, h⟩
        ·
         replace h := h.2 hg69_
         refine Ops_pass rfl rfl (Ops_step (R_pick_false rfl rfl) rfl rfl (Ops_step (R_assign rfl) rfl rfl ?_))
         refine Ops_nil ?_
         refine then_n (k60 _ _ ?_)
         clear k60 K60
         refine W_keepB [6] fun B_ b_ => ?_
         simp only [e_, Nat.reduceAdd, Nat.reduceBEq] at b_
         subst b_
         refine W_ret ?_
         refine ⟨_, ⟨_, _, rfl, rfl, rfl⟩, ?_⟩
         exact ⟨false, _, _, rfl, hI, h⟩
       ·
        replace h := h.2 hg65_
        refine Ops_pass rfl rfl (Ops_pass rfl rfl (Ops_pass rfl rfl (Ops_pass rfl rfl (Ops_step (R_pick_false rfl rfl) rfl rfl ?_))))
        refine Ops_step (R_move rfl) rfl rfl (Ops_pass rfl rfl (Ops_step (R_pick_false rfl rfl) rfl rfl (Ops_step (R_assign rfl) rfl rfl ?_)))
        refine Ops_nil ?_
        refine then_n (k60 _ _ ?_)
        clear k60 K60
        refine W_keepB [6] fun B_ b_ => ?_
        simp only [e_, Nat.reduceAdd, Nat.reduceBEq] at b_
        subst b_
        refine W_ret ?_
        refine ⟨_, ⟨_, _, rfl, rfl, rfl⟩, ?_⟩
        exact ⟨false, _, _, rfl, hI, h⟩
      ·
       replace h := h.2 hg61_
       refine Ops_pass rfl rfl (Ops_pass rfl rfl (Ops_pass rfl rfl (Ops_pass rfl rfl (Ops_step (R_pick_false rfl rfl) rfl rfl ?_))))
       refine Ops_step (R_move rfl) rfl rfl (Ops_pass rfl rfl (Ops_pass rfl rfl (Ops_pass rfl rfl (Ops_pass rfl rfl ?_))))
       refine Ops_step (R_pick_false rfl rfl) rfl rfl (Ops_step (R_move rfl) rfl rfl (Ops_pass rfl rfl (Ops_step (R_pick_false rfl rfl) rfl rfl (Ops_step (R_assign rfl) rfl rfl ?_))))
       refine Ops_nil ?_
       refine then_n (k60 _ _ ?_)
       clear k60 K60
       refine W_keepB [6] fun B_ b_ => ?_
       simp only [e_, Nat.reduceAdd, Nat.reduceBEq] at b_
       subst b_
       refine W_ret ?_
       refine ⟨_, ⟨_, _, rfl, rfl, rfl⟩, ?_⟩
       exact ⟨false, _, _, rfl, hI, h⟩
     ·
      have hge0_o1_58b := hge_o1_58b
      replace hge_o1_58b := Nat.le_trans hI.size hge_o1_58b
      have hge0_o2_58b := hge_o2_58b
      replace hge_o2_58b := Nat.le_trans hI.size hge_o2_58b
      refine Exists.elim (hI.call hI58b_ (new1 hge_o0_10)) fun L58b0_ h58b_ => ?_
      have hz58b_ := hI.size
      replace hI := h58b_.1
      have u58b_ := h58b_.2.1
      have hl58b_ := h58b_.2.2
      clear h58b_
      replace hto2_10_17 := hto2_10_17.up u58b_.hh u58b_ (hto2_10_17.neT ht55_o0)
      replace hs35_ := hs35_.up u58b_.ll
      replace ht42_o0 := ht42_o0.up u58b_ (ht42_o0.apart ht55_o0 (by decide))
      replace hs42_o0_1 := hs42_o0_1.up u58b_.hh
      replace hs55_o0_1 := hs55_o0_1.up u58b_.hh
      replace hs55_o0_2 := hs55_o0_2.up u58b_.hh
      replace hs55_o0_3 := hs55_o0_3.up u58b_.hh
      clear ht55_o0
      have hneo1_58b_o1_10 : o1_10 ≠ o1_58b := fun e_ => absurd hlo58_o1_10 (by omega)
      have hneo2_58b_o2_10 : o2_10 ≠ o2_58b := fun e_ => absurd hlo58_o2_10 (by omega)
      clear hI58b_ u58b_ hl58b_
      refine ⟨_, rfl, ?_⟩
      refine Ops_step (R_move rfl) rfl rfl ?_
      refine Ops_step (R_extract (v := .pointer (some ⟨o1_58b, 0, none⟩)) rfl rfl) rfl rfl ?_
      refine Ops_step (R_extract (v := vi r58b_1) rfl rfl) rfl rfl ?_
      refine Ops_step (R_assign rfl) rfl rfl (Ops_step (R_assign rfl) rfl rfl ?_)
      refine Ops_nil ?_
      refine then_n (k57 _ _ ?_)
      clear k57 K57
      refine W_keepB [8, 12, 13, 14] fun B_ b_ => ?_
      simp only [e_, Nat.reduceAdd, Nat.reduceBEq] at b_
      subst b_
      refine W_seq_k fun K76 k76 => ?_
      refine W_region [74, 75, 76, 77, 78, 79, 80, 81, 82, 83, 84, 85, 86, 87, 88, 89, 90, 6] rfl (Ops_step (R_move rfl) rfl rfl (Ops_step (R_eql rfl rfl) rfl rfl (Ops_step (R_move rfl) rfl rfl ?_)))
      refine Ops_split 76 rfl (fun hg77_ => ?_) (fun hg77_ => ?_)
      ·
       replace h := h.1 hg77_
       refine Ops_step (R_move rfl) rfl rfl ?_
       refine Ops_call (C_func bd16 rfl) rfl rfl ?_
       refine (sealskinlaw06_records_ok (z0 := y58b_o1) (z1 := y58b_o2) (z2 := y58b_o0) hI.st (hg.up hI.le) ht58b_o2 ht58b_o0 hc58b_o0_1 hs58b_o0_1 hc58b_o0_2 hs58b_o0_2 hc58b_o0_3 hs58b_o0_3 ht58b_o1 hc58b_o1_1 hs58b_o1_1 h).mono ?_
       rintro _ w78_ ⟨A78_0, c78_0, r78_0, L78_, H78_, rfl, hI78_, ho78_0, h⟩
       refine Exists.elim (hI.call hI78_ (by simp)) fun L780_ h78_ => ?_
       have hz78_ := hI.size
       replace hI := h78_.1
       have u78_ := h78_.2.1
       have hl78_ := h78_.2.2
       clear h78_
       replace hto2_10_17 := hto2_10_17.up u78_.hh u78_ (by simp)
       replace hs35_ := hs35_.up u78_.ll
       replace ht42_o0 := ht42_o0.up u78_ (by simp)
       replace hs42_o0_1 := hs42_o0_1.up u78_.hh
       replace ht58b_o0 := ht58b_o0.up u78_ (by simp)
       replace hs58b_o0_1 := hs58b_o0_1.up u78_.hh
       replace hs58b_o0_2 := hs58b_o0_2.up u78_.hh
       replace hs58b_o0_3 := hs58b_o0_3.up u78_.hh
       replace ht58b_o1 := ht58b_o1.up u78_ (by simp)
       replace hs58b_o1_1 := hs58b_o1_1.up u78_.hh
       replace ht58b_o2 := ht58b_o2.up u78_.hh u78_ (by simp)
       replace ho78_0 := OwnS.back ho78_0 hz78_ hl78_ (Le.refl _)
       clear hI78_ u78_ hl78_
       refine ⟨_, rfl, ?_⟩
       refine Exists.elim (ho78_0.freeze hI) fun L79_ h79_ => Exists.elim h79_ fun H79_ h79_ => ?_
       replace hI := h79_.1
       have u79_ := h79_.2.1
       have hs79_ := h79_.2.2.1 (Le.refl _)
       have hc79_ := ho78_0.cap
       replace hto2_10_17 := hto2_10_17.up u79_.hh u79_ (hto2_10_17.neO ho78_0)
       replace hs35_ := hs35_.up u79_.ll
       replace ht42_o0 := ht42_o0.up u79_ (ht42_o0.sep ho78_0 (by decide))
       replace hs42_o0_1 := hs42_o0_1.up u79_.hh
       replace ht58b_o0 := ht58b_o0.up u79_ (ht58b_o0.sep ho78_0 (by decide))
       replace hs58b_o0_1 := hs58b_o0_1.up u79_.hh
       replace hs58b_o0_2 := hs58b_o0_2.up u79_.hh
       replace hs58b_o0_3 := hs58b_o0_3.up u79_.hh
       clear h79_ u79_ ho78_0
       refine Ops_step (R_move rfl) rfl rfl ?_
       refine Ops_call (C_func bd23 rfl) rfl rfl ?_
       refine (slices_Equal_sealskinref06_Record_sealskinref06_Record_ok (x0 := r78_0) (x1 := r34_0) hI.st (hg.up hI.le) hc79_ (hs79_.up hI.sub) hc35_ (hs35_.up hI.sub) h).mono ?_
       rintro _ w80_ ⟨r80_0, L80_, H80_, rfl, hI80_, h⟩
       refine Exists.elim (hI.call hI80_ (by simp)) fun L800_ h80_ => ?_
       have hz80_ := hI.size
       replace hI := h80_.1
       have u80_ := h80_.2.1
       have hl80_ := h80_.2.2
       clear h80_
       replace hto2_10_17 := hto2_10_17.up u80_.hh u80_ (by simp)
       replace hs35_ := hs35_.up u80_.ll
       replace ht42_o0 := ht42_o0.up u80_ (by simp)
       replace hs42_o0_1 := hs42_o0_1.up u80_.hh
       replace ht58b_o0 := ht58b_o0.up u80_ (by simp)
       replace hs58b_o0_1 := hs58b_o0_1.up u80_.hh
       replace hs58b_o0_2 := hs58b_o0_2.up u80_.hh
       replace hs58b_o0_3 := hs58b_o0_3.up u80_.hh
       clear hI80_ u80_ hl80_
       refine ⟨_, rfl, ?_⟩
       refine Ops_step (R_pick_true rfl rfl) rfl rfl (Ops_step (R_move rfl) rfl rfl ?_)
       refine Ops_splitB 82 rfl (fun hg81_ => ?_) (fun hg81_ => ?_)
       ·
        replace h := h.1 hg81_
        refine Ops_step (R_move rfl) rfl rfl ?_
        refine Ops_call (C_func bd16 rfl) rfl rfl ?_
        refine (sealskinlaw06_records_ok (z0 := y42_o0) (z1 := yo2_10_17) (z2 := y58b_o0) hI.st (hg.up hI.le) hto2_10_17 ht58b_o0 hc58b_o0_1 hs58b_o0_1 hc58b_o0_2 hs58b_o0_2 hc58b_o0_3 hs58b_o0_3 ht42_o0 hc42_o0_1 hs42_o0_1 h).mono ?_
        rintro _ w82_ ⟨A82_0, c82_0, r82_0, L82_, H82_, rfl, hI82_, ho82_0, h⟩
        refine Exists.elim (hI.call hI82_ (by simp)) fun L820_ h82_ => ?_
        have hz82_ := hI.size
        replace hI := h82_.1
        have u82_ := h82_.2.1
        have hl82_ := h82_.2.2
        clear h82_
        replace hto2_10_17 := hto2_10_17.up u82_.hh u82_ (by simp)
        replace hs35_ := hs35_.up u82_.ll
        replace ht42_o0 := ht42_o0.up u82_ (by simp)
        replace hs42_o0_1 := hs42_o0_1.up u82_.hh
        replace ht58b_o0 := ht58b_o0.up u82_ (by simp)
        replace hs58b_o0_1 := hs58b_o0_1.up u82_.hh
        replace hs58b_o0_2 := hs58b_o0_2.up u82_.hh
        replace hs58b_o0_3 := hs58b_o0_3.up u82_.hh
        replace ho82_0 := OwnS.back ho82_0 hz82_ hl82_ (Le.refl _)
        clear hI82_ u82_ hl82_
        refine ⟨_, rfl, ?_⟩
        refine Exists.elim (ho82_0.freeze hI) fun L83_ h83_ => Exists.elim h83_ fun H83_ h83_ => ?_
        replace hI := h83_.1
        have u83_ := h83_.2.1
        have hs83_ := h83_.2.2.1 (Le.refl _)
        have hc83_ := ho82_0.cap
        replace hs35_ := hs35_.up u83_.ll
        clear h83_ u83_ ho82_0
        refine Ops_step (R_move rfl) rfl rfl ?_
        refine Ops_call (C_func bd23 rfl) rfl rfl ?_
        refine (slices_Equal_sealskinref06_Record_sealskinref06_Record_ok (x0 := r82_0) (x1 := r34_0) hI.st (hg.up hI.le) hc83_ (hs83_.up hI.sub) hc35_ (hs35_.up hI.sub) h).mono ?_
        rintro _ w84_ ⟨r84_0, L84_, H84_, rfl, hI84_, h⟩
        refine Exists.elim (hI.call hI84_ (by simp)) fun L840_ h84_ => ?_
        have hz84_ := hI.size
        replace hI := h84_.1
        have u84_ := h84_.2.1
        have hl84_ := h84_.2.2
        clear h84_
        clear hI84_ u84_ hl84_
        refine ⟨_, rfl, ?_⟩
        refine Ops_step (R_pick_true rfl rfl) rfl rfl (Ops_step (R_move rfl) rfl rfl ?_)
        refine Ops_splitB 88 rfl (fun hg85_ => ?_) (fun hg85_ => ?_)
        ·
         replace h := h.1 hg85_
         refine Ops_call (C_func bd12 rfl) rfl rfl ?_
         refine (sealskinlaw06_awake_ok  hI.st (hg.up hI.le)  h).mono ?_
         rintro _ w86_ ⟨r86_0, L86_, H86_, rfl, hI86_, h⟩
         refine Exists.elim (hI.call hI86_ (by simp)) fun L860_ h86_ => ?_
         have hz86_ := hI.size
         replace hI := h86_.1
         have u86_ := h86_.2.1
         have hl86_ := h86_.2.2
         clear h86_
         clear hI86_ u86_ hl86_
         refine ⟨_, rfl, ?_⟩
         refine Ops_step (R_pick_true rfl rfl) rfl rfl (Ops_step (R_assign rfl) rfl rfl ?_)
         refine Ops_nil ?_
         refine then_n (k76 _ _ ?_)
         clear k76 K76
         refine W_keepB [6] fun B_ b_ => ?_
         simp only [e_, Nat.reduceAdd, Nat.reduceBEq] at b_
         subst b_
         refine W_ret ?_
         refine ⟨_, ⟨_, _, rfl, rfl, rfl⟩, ?_⟩
         exact ⟨r86_0, _, _, rfl, hI, h⟩
        ·
         replace h := h.2 hg85_
         refine Ops_pass rfl rfl (Ops_step (R_pick_false rfl rfl) rfl rfl (Ops_step (R_assign rfl) rfl rfl ?_))
         refine Ops_nil ?_
         refine then_n (k76 _ _ ?_)
         clear k76 K76
         refine W_keepB [6] fun B_ b_ => ?_
         simp only [e_, Nat.reduceAdd, Nat.reduceBEq] at b_
         subst b_
         refine W_ret ?_
         refine ⟨_, ⟨_, _, rfl, rfl, rfl⟩, ?_⟩
         exact ⟨false, _, _, rfl, hI, h⟩
       ·
        replace h := h.2 hg81_
        refine Ops_pass rfl rfl (Ops_pass rfl rfl (Ops_pass rfl rfl (Ops_pass rfl rfl (Ops_step (R_pick_false rfl rfl) rfl rfl ?_))))
        refine Ops_step (R_move rfl) rfl rfl (Ops_pass rfl rfl (Ops_step (R_pick_false rfl rfl) rfl rfl (Ops_step (R_assign rfl) rfl rfl ?_)))
        refine Ops_nil ?_
        refine then_n (k76 _ _ ?_)
        clear k76 K76
        refine W_keepB [6] fun B_ b_ => ?_
        simp only [e_, Nat.reduceAdd, Nat.reduceBEq] at b_
        subst b_
        refine W_ret ?_
        refine ⟨_, ⟨_, _, rfl, rfl, rfl⟩, ?_⟩
        exact ⟨false, _, _, rfl, hI, h⟩
      ·
       replace h := h.2 hg77_
       refine Ops_pass rfl rfl (Ops_pass rfl rfl (Ops_pass rfl rfl (Ops_pass rfl rfl (Ops_step (R_pick_false rfl rfl) rfl rfl ?_))))
       refine Ops_step (R_move rfl) rfl rfl (Ops_pass rfl rfl (Ops_pass rfl rfl (Ops_pass rfl rfl (Ops_pass rfl rfl ?_))))
       refine Ops_step (R_pick_false rfl rfl) rfl rfl (Ops_step (R_move rfl) rfl rfl (Ops_pass rfl rfl (Ops_step (R_pick_false rfl rfl) rfl rfl (Ops_step (R_assign rfl) rfl rfl ?_))))
       refine Ops_nil ?_
       refine then_n (k76 _ _ ?_)
       clear k76 K76
       refine W_keepB [6] fun B_ b_ => ?_
       simp only [e_, Nat.reduceAdd, Nat.reduceBEq] at b_
       subst b_
       refine W_ret ?_
       refine ⟨_, ⟨_, _, rfl, rfl, rfl⟩, ?_⟩
       exact ⟨false, _, _, rfl, hI, h⟩
    ·
     have hge0_o1_51b := hge_o1_51b
     replace hge_o1_51b := Nat.le_trans hI.size hge_o1_51b
     have hge0_o2_51b := hge_o2_51b
     replace hge_o2_51b := Nat.le_trans hI.size hge_o2_51b
     refine Exists.elim (hI.call hI51b_ (new1 hge_o0_10)) fun L51b0_ h51b_ => ?_
     have hz51b_ := hI.size
     replace hI := h51b_.1
     have u51b_ := h51b_.2.1
     have hl51b_ := h51b_.2.2
     clear h51b_
     replace hto2_10_17 := hto2_10_17.up u51b_.hh u51b_ (hto2_10_17.neT ht48_o0)
     replace hs35_ := hs35_.up u51b_.ll
     replace ht42_o0 := ht42_o0.up u51b_ (ht42_o0.apart ht48_o0 (by decide))
     replace hs42_o0_1 := hs42_o0_1.up u51b_.hh
     replace hs48_o0_1 := hs48_o0_1.up u51b_.hh
     replace hs48_o0_2 := hs48_o0_2.up u51b_.hh
     replace hs48_o0_3 := hs48_o0_3.up u51b_.hh
     clear ht48_o0
     have hneo1_51b_o1_10 : o1_10 ≠ o1_51b := fun e_ => absurd hlo51_o1_10 (by omega)
     have hneo2_51b_o2_10 : o2_10 ≠ o2_51b := fun e_ => absurd hlo51_o2_10 (by omega)
     clear hI51b_ u51b_ hl51b_
     refine ⟨_, rfl, ?_⟩
     refine Ops_nil ?_
     refine then_n (k50 _ _ ?_)
     clear k50 K50
     refine W_seq_k fun K91 k91 => ?_
     refine W_region [65, 66] rfl (Ops_step (R_move rfl) rfl rfl ?_)
     refine Ops_call (C_func bd22 rfl) rfl rfl ?_
     refine (disk_Disk_Start_ok (z0 := y51b_o0) hI.st (hg.up hI.le) ht51b_o0 hc51b_o0_1 hs51b_o0_1 hc51b_o0_2 hs51b_o0_2 hc51b_o0_3 hs51b_o0_3 h).mono ?_
     rintro _ w92_ ⟨r92_0, y92_o0, A92_o0_1, c92_o0_1, A92_o0_2, c92_o0_2, A92_o0_3, c92_o0_3, L92_, H92_, rfl, hI92_, ht92_o0, hc92_o0_1, hs92_o0_1, hc92_o0_2, hs92_o0_2, hc92_o0_3, hs92_o0_3, h⟩
     refine Exists.elim (hI.call hI92_ (new1 hge_o0_10)) fun L920_ h92_ => ?_
     have hz92_ := hI.size
     replace hI := h92_.1
     have u92_ := h92_.2.1
     have hl92_ := h92_.2.2
     clear h92_
     replace hto2_10_17 := hto2_10_17.up u92_.hh u92_ (hto2_10_17.neT ht51b_o0)
     replace hs35_ := hs35_.up u92_.ll
     replace ht42_o0 := ht42_o0.up u92_ (ht42_o0.apart ht51b_o0 (by decide))
     replace hs42_o0_1 := hs42_o0_1.up u92_.hh
     replace hs51b_o0_1 := hs51b_o0_1.up u92_.hh
     replace hs51b_o0_2 := hs51b_o0_2.up u92_.hh
     replace hs51b_o0_3 := hs51b_o0_3.up u92_.hh
     clear ht51b_o0
     clear hI92_ u92_ hl92_
     refine ⟨_, rfl, ?_⟩
     refine Ops_nil ?_
     refine then_n (k91 _ _ ?_)
     clear k91 K91
     refine W_seq_k fun K93 k93 => ?_
     refine W_region [67, 68] rfl (Ops_step (R_move rfl) rfl rfl ?_)
     refine Ops_call (C_func bd31 rfl) rfl rfl ?_
     refine (disk_Disk_Disarm_ok (z0 := y92_o0) hI.st (hg.up hI.le) ht92_o0 hc92_o0_1 hs92_o0_1 hc92_o0_2 hs92_o0_2 hc92_o0_3 hs92_o0_3 h).mono ?_
     rintro _ w94_ ⟨r94_0, y94_o0, A94_o0_1, c94_o0_1, A94_o0_2, c94_o0_2, A94_o0_3, c94_o0_3, L94_, H94_, rfl, hI94_, ht94_o0, hc94_o0_1, hs94_o0_1, hc94_o0_2, hs94_o0_2, hc94_o0_3, hs94_o0_3, h⟩
     refine Exists.elim (hI.call hI94_ (new1 hge_o0_10)) fun L940_ h94_ => ?_
     have hz94_ := hI.size
     replace hI := h94_.1
     have u94_ := h94_.2.1
     have hl94_ := h94_.2.2
     clear h94_
     replace hto2_10_17 := hto2_10_17.up u94_.hh u94_ (hto2_10_17.neT ht92_o0)
     replace hs35_ := hs35_.up u94_.ll
     replace ht42_o0 := ht42_o0.up u94_ (ht42_o0.apart ht92_o0 (by decide))
     replace hs42_o0_1 := hs42_o0_1.up u94_.hh
     replace hs92_o0_1 := hs92_o0_1.up u94_.hh
     replace hs92_o0_2 := hs92_o0_2.up u94_.hh
     replace hs92_o0_3 := hs92_o0_3.up u94_.hh
     clear ht92_o0
     clear hI94_ u94_ hl94_
     refine ⟨_, rfl, ?_⟩
     refine Ops_nil ?_
     refine then_n (k93 _ _ ?_)
     clear k93 K93
     refine W_keepB [7, 8, 12] fun B_ b_ => ?_
     simp only [e_, Nat.reduceAdd, Nat.reduceBEq] at b_
     subst b_
     refine W_seq_k fun K96 k96 => ?_
     refine W_region [70, 71, 69, 72, 73, 13, 14] rfl (Ops_step (R_move rfl) rfl rfl ?_)
     refine Ops_call (C_func bd20 rfl) rfl rfl ?_
     refine (journal_Open_ok (z0 := y94_o0) hI.st (hg.up hI.le) ht94_o0 hc94_o0_1 hs94_o0_1 hc94_o0_2 hs94_o0_2 hc94_o0_3 hs94_o0_3 h).mono ?_
     have hlo97_o1_10 := ht42_o0.blk.lt
     have hlo97_o2_10 := hto2_10_17.lt
     rintro _ w97_ (⟨r97a_1, y97a_o0, A97a_o0_1, c97a_o0_1, A97a_o0_2, c97a_o0_2, A97a_o0_3, c97a_o0_3, L97a_, H97a_, rfl, hI97a_, ht97a_o0, hc97a_o0_1, hs97a_o0_1, hc97a_o0_2, hs97a_o0_2, hc97a_o0_3, hs97a_o0_3, h⟩ | ⟨r97b_1, y97b_o0, A97b_o0_1, c97b_o0_1, A97b_o0_2, c97b_o0_2, A97b_o0_3, c97b_o0_3, o1_97b, y97b_o1, A97b_o1_1, c97b_o1_1, o2_97b, y97b_o2, L97b_, H97b_, rfl, hI97b_, ht97b_o0, hc97b_o0_1, hs97b_o0_1, hc97b_o0_2, hs97b_o0_2, hc97b_o0_3, hs97b_o0_3, hge_o1_97b, ht97b_o1, hc97b_o1_1, hs97b_o1_1, hge_o2_97b, ht97b_o2, h⟩)
     ·
      refine Exists.elim (hI.call hI97a_ (new1 hge_o0_10)) fun L97a0_ h97a_ => ?_
      have hz97a_ := hI.size
      replace hI := h97a_.1
      have u97a_ := h97a_.2.1
      have hl97a_ := h97a_.2.2
      clear h97a_
      replace hto2_10_17 := hto2_10_17.up u97a_.hh u97a_ (hto2_10_17.neT ht94_o0)
      replace hs35_ := hs35_.up u97a_.ll
      replace ht42_o0 := ht42_o0.up u97a_ (ht42_o0.apart ht94_o0 (by decide))
      replace hs42_o0_1 := hs42_o0_1.up u97a_.hh
      replace hs94_o0_1 := hs94_o0_1.up u97a_.hh
      replace hs94_o0_2 := hs94_o0_2.up u97a_.hh
      replace hs94_o0_3 := hs94_o0_3.up u97a_.hh
      clear ht94_o0
      clear hI97a_ u97a_ hl97a_
      refine ⟨_, rfl, ?_⟩
      refine Ops_step (R_move rfl) rfl rfl ?_
      refine Ops_step (R_extract (v := .pointer none) rfl rfl) rfl rfl ?_
      refine Ops_step (R_extract (v := vi r97a_1) rfl rfl) rfl rfl ?_
      refine Ops_step (R_assign rfl) rfl rfl (Ops_step (R_assign rfl) rfl rfl ?_)
      refine Ops_nil ?_
      refine then_n (k96 _ _ ?_)
      clear k96 K96
      refine W_keepB [8, 12, 13, 14] fun B_ b_ => ?_
      simp only [e_, Nat.reduceAdd, Nat.reduceBEq] at b_
      subst b_
      refine W_seq_k fun K99 k99 => ?_
      refine W_region [74, 75, 76, 77, 78, 79, 80, 81, 82, 83, 84, 85, 86, 87, 88, 89, 90, 6] rfl (Ops_step (R_move rfl) rfl rfl (Ops_step (R_eql rfl rfl) rfl rfl (Ops_step (R_move rfl) rfl rfl ?_)))
      refine Ops_split 76 rfl (fun hg100_ => ?_) (fun hg100_ => ?_)
      ·
       replace h := h.1 hg100_
       refine Ops_step (R_move rfl) rfl rfl ?_
       refine Ops_call (C_func bd16 rfl) rfl rfl ?_
       refine (sealskinlaw06_records_v1_ok  hI.st (hg.up hI.le)  h).mono ?_
       rintro _ w101_ ⟨A101_0, c101_0, r101_0, L101_, H101_, rfl, hI101_, ho101_0, h⟩
       refine Exists.elim (hI.call hI101_ (by simp)) fun L1010_ h101_ => ?_
       have hz101_ := hI.size
       replace hI := h101_.1
       have u101_ := h101_.2.1
       have hl101_ := h101_.2.2
       clear h101_
       replace hto2_10_17 := hto2_10_17.up u101_.hh u101_ (by simp)
       replace hs35_ := hs35_.up u101_.ll
       replace ht42_o0 := ht42_o0.up u101_ (by simp)
       replace hs42_o0_1 := hs42_o0_1.up u101_.hh
       replace ht97a_o0 := ht97a_o0.up u101_ (by simp)
       replace hs97a_o0_1 := hs97a_o0_1.up u101_.hh
       replace hs97a_o0_2 := hs97a_o0_2.up u101_.hh
       replace hs97a_o0_3 := hs97a_o0_3.up u101_.hh
       replace ho101_0 := OwnS.back ho101_0 hz101_ hl101_ (Le.refl _)
       clear hI101_ u101_ hl101_
       refine ⟨_, rfl, ?_⟩
       refine Exists.elim (ho101_0.freeze hI) fun L102_ h102_ => Exists.elim h102_ fun H102_ h102_ => ?_
       replace hI := h102_.1
       have u102_ := h102_.2.1
       have hs102_ := h102_.2.2.1 (Le.refl _)
       have hc102_ := ho101_0.cap
       replace hto2_10_17 := hto2_10_17.up u102_.hh u102_ (hto2_10_17.neO ho101_0)
       replace hs35_ := hs35_.up u102_.ll
       replace ht42_o0 := ht42_o0.up u102_ (ht42_o0.sep ho101_0 (by decide))
       replace hs42_o0_1 := hs42_o0_1.up u102_.hh
       replace ht97a_o0 := ht97a_o0.up u102_ (ht97a_o0.sep ho101_0 (by decide))
       replace hs97a_o0_1 := hs97a_o0_1.up u102_.hh
       replace hs97a_o0_2 := hs97a_o0_2.up u102_.hh
       replace hs97a_o0_3 := hs97a_o0_3.up u102_.hh
       clear h102_ u102_ ho101_0
       refine Ops_step (R_move rfl) rfl rfl ?_
       refine Ops_call (C_func bd23 rfl) rfl rfl ?_
       refine (slices_Equal_sealskinref06_Record_sealskinref06_Record_ok (x0 := r101_0) (x1 := r34_0) hI.st (hg.up hI.le) hc102_ (hs102_.up hI.sub) hc35_ (hs35_.up hI.sub) h).mono ?_
       rintro _ w103_ ⟨r103_0, L103_, H103_, rfl, hI103_, h⟩
       refine Exists.elim (hI.call hI103_ (by simp)) fun L1030_ h103_ => ?_
       have hz103_ := hI.size
       replace hI := h103_.1
       have u103_ := h103_.2.1
       have hl103_ := h103_.2.2
       clear h103_
       replace hto2_10_17 := hto2_10_17.up u103_.hh u103_ (by simp)
       replace hs35_ := hs35_.up u103_.ll
       replace ht42_o0 := ht42_o0.up u103_ (by simp)
       replace hs42_o0_1 := hs42_o0_1.up u103_.hh
       replace ht97a_o0 := ht97a_o0.up u103_ (by simp)
       replace hs97a_o0_1 := hs97a_o0_1.up u103_.hh
       replace hs97a_o0_2 := hs97a_o0_2.up u103_.hh
       replace hs97a_o0_3 := hs97a_o0_3.up u103_.hh
       clear hI103_ u103_ hl103_
       refine ⟨_, rfl, ?_⟩
       refine Ops_step (R_pick_true rfl rfl) rfl rfl (Ops_step (R_move rfl) rfl rfl ?_)
       refine Ops_splitB 82 rfl (fun hg104_ => ?_) (fun hg104_ => ?_)
       ·
        replace h := h.1 hg104_
        refine Ops_step (R_move rfl) rfl rfl ?_
        refine Ops_call (C_func bd16 rfl) rfl rfl ?_
        refine (sealskinlaw06_records_ok (z0 := y42_o0) (z1 := yo2_10_17) (z2 := y97a_o0) hI.st (hg.up hI.le) hto2_10_17 ht97a_o0 hc97a_o0_1 hs97a_o0_1 hc97a_o0_2 hs97a_o0_2 hc97a_o0_3 hs97a_o0_3 ht42_o0 hc42_o0_1 hs42_o0_1 h).mono ?_
        rintro _ w105_ ⟨A105_0, c105_0, r105_0, L105_, H105_, rfl, hI105_, ho105_0, h⟩
        refine Exists.elim (hI.call hI105_ (by simp)) fun L1050_ h105_ => ?_
        have hz105_ := hI.size
        replace hI := h105_.1
        have u105_ := h105_.2.1
        have hl105_ := h105_.2.2
        clear h105_
        replace hto2_10_17 := hto2_10_17.up u105_.hh u105_ (by simp)
        replace hs35_ := hs35_.up u105_.ll
        replace ht42_o0 := ht42_o0.up u105_ (by simp)
        replace hs42_o0_1 := hs42_o0_1.up u105_.hh
        replace ht97a_o0 := ht97a_o0.up u105_ (by simp)
        replace hs97a_o0_1 := hs97a_o0_1.up u105_.hh
        replace hs97a_o0_2 := hs97a_o0_2.up u105_.hh
        replace hs97a_o0_3 := hs97a_o0_3.up u105_.hh
        replace ho105_0 := OwnS.back ho105_0 hz105_ hl105_ (Le.refl _)
        clear hI105_ u105_ hl105_
        refine ⟨_, rfl, ?_⟩
        refine Exists.elim (ho105_0.freeze hI) fun L106_ h106_ => Exists.elim h106_ fun H106_ h106_ => ?_
        replace hI := h106_.1
        have u106_ := h106_.2.1
        have hs106_ := h106_.2.2.1 (Le.refl _)
        have hc106_ := ho105_0.cap
        replace hs35_ := hs35_.up u106_.ll
        clear h106_ u106_ ho105_0
        refine Ops_step (R_move rfl) rfl rfl ?_
        refine Ops_call (C_func bd23 rfl) rfl rfl ?_
        refine (slices_Equal_sealskinref06_Record_sealskinref06_Record_ok (x0 := r105_0) (x1 := r34_0) hI.st (hg.up hI.le) hc106_ (hs106_.up hI.sub) hc35_ (hs35_.up hI.sub) h).mono ?_
        rintro _ w107_ ⟨r107_0, L107_, H107_, rfl, hI107_, h⟩
        refine Exists.elim (hI.call hI107_ (by simp)) fun L1070_ h107_ => ?_
        have hz107_ := hI.size
        replace hI := h107_.1
        have u107_ := h107_.2.1
        have hl107_ := h107_.2.2
        clear h107_
        clear hI107_ u107_ hl107_
        refine ⟨_, rfl, ?_⟩
        refine Ops_step (R_pick_true rfl rfl) rfl rfl (Ops_step (R_move rfl) rfl rfl ?_)
        refine Ops_splitB 88 rfl (fun hg108_ => ?_) (fun hg108_ => ?_)
        ·
         replace h := h.1 hg108_
         refine Ops_call (C_func bd12 rfl) rfl rfl ?_
         refine (sealskinlaw06_awake_ok  hI.st (hg.up hI.le)  h).mono ?_
         rintro _ w109_ ⟨r109_0, L109_, H109_, rfl, hI109_, h⟩
         refine Exists.elim (hI.call hI109_ (by simp)) fun L1090_ h109_ => ?_
         have hz109_ := hI.size
         replace hI := h109_.1
         have u109_ := h109_.2.1
         have hl109_ := h109_.2.2
         clear h109_
         clear hI109_ u109_ hl109_
         refine ⟨_, rfl, ?_⟩
         refine Ops_step (R_pick_true rfl rfl) rfl rfl (Ops_step (R_assign rfl) rfl rfl ?_)
         refine Ops_nil ?_
         refine then_n (k99 _ _ ?_)
         clear k99 K99
         refine W_keepB [6] fun B_ b_ => ?_
         simp only [e_, Nat.reduceAdd, Nat.reduceBEq] at b_
         subst b_
         refine W_ret ?_
         refine ⟨_, ⟨_, _, rfl, rfl, rfl⟩, ?_⟩
         exact ⟨r109_0, _, _, rfl, hI, h⟩
        ·
         replace h := h.2 hg108_
         refine Ops_pass rfl rfl (Ops_step (R_pick_false rfl rfl) rfl rfl (Ops_step (R_assign rfl) rfl rfl ?_))
         refine Ops_nil ?_
         refine then_n (k99 _ _ ?_)
         clear k99 K99
         refine W_keepB [6] fun B_ b_ => ?_
         simp only [e_, Nat.reduceAdd, Nat.reduceBEq] at b_
         subst b_
         refine W_ret ?_
         refine ⟨_, ⟨_, _, rfl, rfl, rfl⟩, ?_⟩
         exact ⟨false, _, _, rfl, hI, h⟩
       ·
        replace h := h.2 hg104_
        refine Ops_pass rfl rfl (Ops_pass rfl rfl (Ops_pass rfl rfl (Ops_pass rfl rfl (Ops_step (R_pick_false rfl rfl) rfl rfl ?_))))
        refine Ops_step (R_move rfl) rfl rfl (Ops_pass rfl rfl (Ops_step (R_pick_false rfl rfl) rfl rfl (Ops_step (R_assign rfl) rfl rfl ?_)))
        refine Ops_nil ?_
        refine then_n (k99 _ _ ?_)
        clear k99 K99
        refine W_keepB [6] fun B_ b_ => ?_
        simp only [e_, Nat.reduceAdd, Nat.reduceBEq] at b_
        subst b_
        refine W_ret ?_
        refine ⟨_, ⟨_, _, rfl, rfl, rfl⟩, ?_⟩
        exact ⟨false, _, _, rfl, hI, h⟩
      ·
       replace h := h.2 hg100_
       refine Ops_pass rfl rfl (Ops_pass rfl rfl (Ops_pass rfl rfl (Ops_pass rfl rfl (Ops_step (R_pick_false rfl rfl) rfl rfl ?_))))
       refine Ops_step (R_move rfl) rfl rfl (Ops_pass rfl rfl (Ops_pass rfl rfl (Ops_pass rfl rfl (Ops_pass rfl rfl ?_))))
       refine Ops_step (R_pick_false rfl rfl) rfl rfl (Ops_step (R_move rfl) rfl rfl (Ops_pass rfl rfl (Ops_step (R_pick_false rfl rfl) rfl rfl (Ops_step (R_assign rfl) rfl rfl ?_))))
       refine Ops_nil ?_
       refine then_n (k99 _ _ ?_)
       clear k99 K99
       refine W_keepB [6] fun B_ b_ => ?_
       simp only [e_, Nat.reduceAdd, Nat.reduceBEq] at b_
       subst b_
       refine W_ret ?_
       refine ⟨_, ⟨_, _, rfl, rfl, rfl⟩, ?_⟩
       exact ⟨false, _, _, rfl, hI, h⟩
     ·
      have hge0_o1_97b := hge_o1_97b
      replace hge_o1_97b := Nat.le_trans hI.size hge_o1_97b
      have hge0_o2_97b := hge_o2_97b
      replace hge_o2_97b := Nat.le_trans hI.size hge_o2_97b
      refine Exists.elim (hI.call hI97b_ (new1 hge_o0_10)) fun L97b0_ h97b_ => ?_
      have hz97b_ := hI.size
      replace hI := h97b_.1
      have u97b_ := h97b_.2.1
      have hl97b_ := h97b_.2.2
      clear h97b_
      replace hto2_10_17 := hto2_10_17.up u97b_.hh u97b_ (hto2_10_17.neT ht94_o0)
      replace hs35_ := hs35_.up u97b_.ll
      replace ht42_o0 := ht42_o0.up u97b_ (ht42_o0.apart ht94_o0 (by decide))
      replace hs42_o0_1 := hs42_o0_1.up u97b_.hh
      replace hs94_o0_1 := hs94_o0_1.up u97b_.hh
      replace hs94_o0_2 := hs94_o0_2.up u97b_.hh
      replace hs94_o0_3 := hs94_o0_3.up u97b_.hh
      clear ht94_o0
      have hneo1_97b_o1_10 : o1_10 ≠ o1_97b := fun e_ => absurd hlo97_o1_10 (by omega)
      have hneo2_97b_o2_10 : o2_10 ≠ o2_97b := fun e_ => absurd hlo97_o2_10 (by omega)
      clear hI97b_ u97b_ hl97b_
      refine ⟨_, rfl, ?_⟩
      refine Ops_step (R_move rfl) rfl rfl ?_
      refine Ops_step (R_extract (v := .pointer (some ⟨o1_97b, 0, none⟩)) rfl rfl) rfl rfl ?_
      refine Ops_step (R_extract (v := vi r97b_1) rfl rfl) rfl rfl ?_
      refine Ops_step (R_assign rfl) rfl rfl (Ops_step (R_assign rfl) rfl rfl ?_)
      refine Ops_nil ?_
      refine then_n (k96 _ _ ?_)
      clear k96 K96
      refine W_keepB [8, 12, 13, 14] fun B_ b_ => ?_
      simp only [e_, Nat.reduceAdd, Nat.reduceBEq] at b_
      subst b_
      refine W_seq_k fun K115 k115 => ?_
      refine W_region [74, 75, 76, 77, 78, 79, 80, 81, 82, 83, 84, 85, 86, 87, 88, 89, 90, 6] rfl (Ops_step (R_move rfl) rfl rfl (Ops_step (R_eql rfl rfl) rfl rfl (Ops_step (R_move rfl) rfl rfl ?_)))
      refine Ops_split 76 rfl (fun hg116_ => ?_) (fun hg116_ => ?_)
      ·
       replace h := h.1 hg116_
       refine Ops_step (R_move rfl) rfl rfl ?_
       refine Ops_call (C_func bd16 rfl) rfl rfl ?_
       refine (sealskinlaw06_records_ok (z0 := y97b_o1) (z1 := y97b_o2) (z2 := y97b_o0) hI.st (hg.up hI.le) ht97b_o2 ht97b_o0 hc97b_o0_1 hs97b_o0_1 hc97b_o0_2 hs97b_o0_2 hc97b_o0_3 hs97b_o0_3 ht97b_o1 hc97b_o1_1 hs97b_o1_1 h).mono ?_
       rintro _ w117_ ⟨A117_0, c117_0, r117_0, L117_, H117_, rfl, hI117_, ho117_0, h⟩
       refine Exists.elim (hI.call hI117_ (by simp)) fun L1170_ h117_ => ?_
       have hz117_ := hI.size
       replace hI := h117_.1
       have u117_ := h117_.2.1
       have hl117_ := h117_.2.2
       clear h117_
       replace hto2_10_17 := hto2_10_17.up u117_.hh u117_ (by simp)
       replace hs35_ := hs35_.up u117_.ll
       replace ht42_o0 := ht42_o0.up u117_ (by simp)
       replace hs42_o0_1 := hs42_o0_1.up u117_.hh
       replace ht97b_o0 := ht97b_o0.up u117_ (by simp)
       replace hs97b_o0_1 := hs97b_o0_1.up u117_.hh
       replace hs97b_o0_2 := hs97b_o0_2.up u117_.hh
       replace hs97b_o0_3 := hs97b_o0_3.up u117_.hh
       replace ht97b_o1 := ht97b_o1.up u117_ (by simp)
       replace hs97b_o1_1 := hs97b_o1_1.up u117_.hh
       replace ht97b_o2 := ht97b_o2.up u117_.hh u117_ (by simp)
       replace ho117_0 := OwnS.back ho117_0 hz117_ hl117_ (Le.refl _)
       clear hI117_ u117_ hl117_
       refine ⟨_, rfl, ?_⟩
       refine Exists.elim (ho117_0.freeze hI) fun L118_ h118_ => Exists.elim h118_ fun H118_ h118_ => ?_
       replace hI := h118_.1
       have u118_ := h118_.2.1
       have hs118_ := h118_.2.2.1 (Le.refl _)
       have hc118_ := ho117_0.cap
       replace hto2_10_17 := hto2_10_17.up u118_.hh u118_ (hto2_10_17.neO ho117_0)
       replace hs35_ := hs35_.up u118_.ll
       replace ht42_o0 := ht42_o0.up u118_ (ht42_o0.sep ho117_0 (by decide))
       replace hs42_o0_1 := hs42_o0_1.up u118_.hh
       replace ht97b_o0 := ht97b_o0.up u118_ (ht97b_o0.sep ho117_0 (by decide))
       replace hs97b_o0_1 := hs97b_o0_1.up u118_.hh
       replace hs97b_o0_2 := hs97b_o0_2.up u118_.hh
       replace hs97b_o0_3 := hs97b_o0_3.up u118_.hh
       clear h118_ u118_ ho117_0
       refine Ops_step (R_move rfl) rfl rfl ?_
       refine Ops_call (C_func bd23 rfl) rfl rfl ?_
       refine (slices_Equal_sealskinref06_Record_sealskinref06_Record_ok (x0 := r117_0) (x1 := r34_0) hI.st (hg.up hI.le) hc118_ (hs118_.up hI.sub) hc35_ (hs35_.up hI.sub) h).mono ?_
       rintro _ w119_ ⟨r119_0, L119_, H119_, rfl, hI119_, h⟩
       refine Exists.elim (hI.call hI119_ (by simp)) fun L1190_ h119_ => ?_
       have hz119_ := hI.size
       replace hI := h119_.1
       have u119_ := h119_.2.1
       have hl119_ := h119_.2.2
       clear h119_
       replace hto2_10_17 := hto2_10_17.up u119_.hh u119_ (by simp)
       replace hs35_ := hs35_.up u119_.ll
       replace ht42_o0 := ht42_o0.up u119_ (by simp)
       replace hs42_o0_1 := hs42_o0_1.up u119_.hh
       replace ht97b_o0 := ht97b_o0.up u119_ (by simp)
       replace hs97b_o0_1 := hs97b_o0_1.up u119_.hh
       replace hs97b_o0_2 := hs97b_o0_2.up u119_.hh
       replace hs97b_o0_3 := hs97b_o0_3.up u119_.hh
       clear hI119_ u119_ hl119_
       refine ⟨_, rfl, ?_⟩
       refine Ops_step (R_pick_true rfl rfl) rfl rfl (Ops_step (R_move rfl) rfl rfl ?_)
       refine Ops_splitB 82 rfl (fun hg120_ => ?_) (fun hg120_ => ?_)
       ·
        replace h := h.1 hg120_
        refine Ops_step (R_move rfl) rfl rfl ?_
        refine Ops_call (C_func bd16 rfl) rfl rfl ?_
        refine (sealskinlaw06_records_ok (z0 := y42_o0) (z1 := yo2_10_17) (z2 := y97b_o0) hI.st (hg.up hI.le) hto2_10_17 ht97b_o0 hc97b_o0_1 hs97b_o0_1 hc97b_o0_2 hs97b_o0_2 hc97b_o0_3 hs97b_o0_3 ht42_o0 hc42_o0_1 hs42_o0_1 h).mono ?_
        rintro _ w121_ ⟨A121_0, c121_0, r121_0, L121_, H121_, rfl, hI121_, ho121_0, h⟩
        refine Exists.elim (hI.call hI121_ (by simp)) fun L1210_ h121_ => ?_
        have hz121_ := hI.size
        replace hI := h121_.1
        have u121_ := h121_.2.1
        have hl121_ := h121_.2.2
        clear h121_
        replace hto2_10_17 := hto2_10_17.up u121_.hh u121_ (by simp)
        replace hs35_ := hs35_.up u121_.ll
        replace ht42_o0 := ht42_o0.up u121_ (by simp)
        replace hs42_o0_1 := hs42_o0_1.up u121_.hh
        replace ht97b_o0 := ht97b_o0.up u121_ (by simp)
        replace hs97b_o0_1 := hs97b_o0_1.up u121_.hh
        replace hs97b_o0_2 := hs97b_o0_2.up u121_.hh
        replace hs97b_o0_3 := hs97b_o0_3.up u121_.hh
        replace ho121_0 := OwnS.back ho121_0 hz121_ hl121_ (Le.refl _)
        clear hI121_ u121_ hl121_
        refine ⟨_, rfl, ?_⟩
        refine Exists.elim (ho121_0.freeze hI) fun L122_ h122_ => Exists.elim h122_ fun H122_ h122_ => ?_
        replace hI := h122_.1
        have u122_ := h122_.2.1
        have hs122_ := h122_.2.2.1 (Le.refl _)
        have hc122_ := ho121_0.cap
        replace hs35_ := hs35_.up u122_.ll
        clear h122_ u122_ ho121_0
        refine Ops_step (R_move rfl) rfl rfl ?_
        refine Ops_call (C_func bd23 rfl) rfl rfl ?_
        refine (slices_Equal_sealskinref06_Record_sealskinref06_Record_ok (x0 := r121_0) (x1 := r34_0) hI.st (hg.up hI.le) hc122_ (hs122_.up hI.sub) hc35_ (hs35_.up hI.sub) h).mono ?_
        rintro _ w123_ ⟨r123_0, L123_, H123_, rfl, hI123_, h⟩
        refine Exists.elim (hI.call hI123_ (by simp)) fun L1230_ h123_ => ?_
        have hz123_ := hI.size
        replace hI := h123_.1
        have u123_ := h123_.2.1
        have hl123_ := h123_.2.2
        clear h123_
        clear hI123_ u123_ hl123_
        refine ⟨_, rfl, ?_⟩
        refine Ops_step (R_pick_true rfl rfl) rfl rfl (Ops_step (R_move rfl) rfl rfl ?_)
        refine Ops_splitB 88 rfl (fun hg124_ => ?_) (fun hg124_ => ?_)
        ·
         replace h := h.1 hg124_
         refine Ops_call (C_func bd12 rfl) rfl rfl ?_
         refine (sealskinlaw06_awake_ok  hI.st (hg.up hI.le)  h).mono ?_
         rintro _ w125_ ⟨r125_0, L125_, H125_, rfl, hI125_, h⟩
         refine Exists.elim (hI.call hI125_ (by simp)) fun L1250_ h125_ => ?_
         have hz125_ := hI.size
         replace hI := h125_.1
         have u125_ := h125_.2.1
         have hl125_ := h125_.2.2
         clear h125_
         clear hI125_ u125_ hl125_
         refine ⟨_, rfl, ?_⟩
         refine Ops_step (R_pick_true rfl rfl) rfl rfl (Ops_step (R_assign rfl) rfl rfl ?_)
         refine Ops_nil ?_
         refine then_n (k115 _ _ ?_)
         clear k115 K115
         refine W_keepB [6] fun B_ b_ => ?_
         simp only [e_, Nat.reduceAdd, Nat.reduceBEq] at b_
         subst b_
         refine W_ret ?_
         refine ⟨_, ⟨_, _, rfl, rfl, rfl⟩, ?_⟩
         exact ⟨r125_0, _, _, rfl, hI, h⟩
        ·
         replace h := h.2 hg124_
         refine Ops_pass rfl rfl (Ops_step (R_pick_false rfl rfl) rfl rfl (Ops_step (R_assign rfl) rfl rfl ?_))
         refine Ops_nil ?_
         refine then_n (k115 _ _ ?_)
         clear k115 K115
         refine W_keepB [6] fun B_ b_ => ?_
         simp only [e_, Nat.reduceAdd, Nat.reduceBEq] at b_
         subst b_
         refine W_ret ?_
         refine ⟨_, ⟨_, _, rfl, rfl, rfl⟩, ?_⟩
         exact ⟨false, _, _, rfl, hI, h⟩
       ·
        replace h := h.2 hg120_
        refine Ops_pass rfl rfl (Ops_pass rfl rfl (Ops_pass rfl rfl (Ops_pass rfl rfl (Ops_step (R_pick_false rfl rfl) rfl rfl ?_))))
        refine Ops_step (R_move rfl) rfl rfl (Ops_pass rfl rfl (Ops_step (R_pick_false rfl rfl) rfl rfl (Ops_step (R_assign rfl) rfl rfl ?_)))
        refine Ops_nil ?_
        refine then_n (k115 _ _ ?_)
        clear k115 K115
        refine W_keepB [6] fun B_ b_ => ?_
        simp only [e_, Nat.reduceAdd, Nat.reduceBEq] at b_
        subst b_
        refine W_ret ?_
        refine ⟨_, ⟨_, _, rfl, rfl, rfl⟩, ?_⟩
        exact ⟨false, _, _, rfl, hI, h⟩
      ·
       replace h := h.2 hg116_
       refine Ops_pass rfl rfl (Ops_pass rfl rfl (Ops_pass rfl rfl (Ops_pass rfl rfl (Ops_step (R_pick_false rfl rfl) rfl rfl ?_))))
       refine Ops_step (R_move rfl) rfl rfl (Ops_pass rfl rfl (Ops_pass rfl rfl (Ops_pass rfl rfl (Ops_pass rfl rfl ?_))))
       refine Ops_step (R_pick_false rfl rfl) rfl rfl (Ops_step (R_move rfl) rfl rfl (Ops_pass rfl rfl (Ops_step (R_pick_false rfl rfl) rfl rfl (Ops_step (R_assign rfl) rfl rfl ?_))))
       refine Ops_nil ?_
       refine then_n (k115 _ _ ?_)
       clear k115 K115
       refine W_keepB [6] fun B_ b_ => ?_
       simp only [e_, Nat.reduceAdd, Nat.reduceBEq] at b_
       subst b_
       refine W_ret ?_
       refine ⟨_, ⟨_, _, rfl, rfl, rfl⟩, ?_⟩
       exact ⟨false, _, _, rfl, hI, h⟩

end Go.Proofs.Ytkmljjhjojolcaa

