/- What is shown of the program on the way to the law. -/
import Derived.Test.YtkmljjhjojolcaaZr3
import Derived.Test.YtkmljjhjojolcaaZr4
import Derived.Test.YtkmljjhjojolcaaZr5
import Derived.Test.YtkmljjhjojolcaaZr9
import Derived.Test.YtkmljjhjojolcaaZr10
import Derived.Test.YtkmljjhjojolcaaZr11
import Derived.Test.YtkmljjhjojolcaaProg
set_option linter.unusedVariables false
set_option linter.unusedSimpArgs false
set_option maxHeartbeats 4000000
namespace Go.Proofs.Ytkmljjhjojolcaa
open Go Go.Sx Go.Lx
namespace TJmRefused
theorem hm : Try.prog.follows .mixedOrders = true := by kernel_rfl
theorem ag29 : aggB Try.prog 29 = some false := by kernel_rfl
theorem ag3 : aggB Try.prog 3 = some false := by kernel_rfl
theorem ag31 : aggB Try.prog 31 = some true := by kernel_rfl
theorem bd11 : bodied Try.prog 11 = true := by kernel_rfl
theorem bd12 : bodied Try.prog 12 = true := by kernel_rfl
theorem bd13 : bodied Try.prog 13 = true := by kernel_rfl
theorem bd15 : bodied Try.prog 15 = true := by kernel_rfl
theorem bd16 : bodied Try.prog 16 = true := by kernel_rfl
theorem bd20 : bodied Try.prog 20 = true := by kernel_rfl
theorem bd23 : bodied Try.prog 23 = true := by kernel_rfl
theorem bd30 : bodied Try.prog 30 = true := by kernel_rfl
theorem fo31_0 : offB Try.prog 31 0 = some 0 := by kernel_rfl
theorem fo31_1 : offB Try.prog 31 1 = some 1 := by kernel_rfl
theorem fo31_3 : offB Try.prog 31 3 = some 3 := by kernel_rfl
theorem sz31 : sz Try.prog 31 = some 4 := by kernel_rfl
theorem zr31 : zr Try.prog 31 = some ([.int .i64 0] ++ [.int .i64 0] ++ [.int .i64 0] ++ [.slice none 0 0]) := by kernel_rfl
end TJmRefused
open TJmRefused
theorem sealskinlaw06_JournalRefused_ok {G : Gh} {w : World} (hS : St G w) (hg : GL G) {A0 : Option Addr} {c0 : Nat} {x0 : List sealskinlaw06_Do} (hc0 : x0.length ≤ c0) (hs0 : Sl G A0 x0) {x1 : Int} {A2 : Option Addr} {c2 : Nat} {x2 : List UInt8} (hc2 : x2.length ≤ c2) (hs2 : Sl G A2 x2) {Q : Bool → Prop} (h : sealskinlaw06_JournalRefused x0 x1 x2 Q) : Calls Try.prog 9 #[.slice A0 x0.length c0, vi x1, .slice A2 x2.length c2] w fun e w2 => ∃ (r0 : Bool) (L H : Gh), e = .returned (.bool r0) ∧ Inv [] G w L H w2 ∧ Q r0 := by
 unfold sealskinlaw06_JournalRefused at h
 have hI := Inv.start (M := []) hS
 refine calls_W 94 Try.func9 rfl Try.ntmps9 rfl [.tmp 6] rfl ?_
 refine W_seq_k fun K1 k1 => ?_
 refine W_region [6] rfl (Ops_step (R_assign rfl) rfl rfl ?_)
 refine Ops_nil ?_
 refine then_n (k1 _ _ ?_)
 clear k1 K1
 refine W_seq_k fun K2 k2 => ?_
 refine ex_ h fun J3_ hr3_ h => ?_
 refine W_seq_join [0, 1, 2] [23] (fun vals_ w2 => ∃ (x23_3 : Bool) (L H : Gh), vals_ = [.bool x23_3] ∧ J3_ x23_3 ∧ Inv [] G w L H w2 ∧ Le Gh.no L ∧ Le G H ∧ True) (fun B_ b_ => ?_) (fun B_ b_ => ?_)
 ·
  simp only [e_, Nat.reduceAdd, Nat.reduceBEq] at b_
  subst b_
  clear hr3_
  have hll3_ := Le.refl Gh.no
  have hhh3_ := Le.refl G
  refine W_region [16, 17, 18, 19, 20, 21, 22, 23] rfl (Ops_step (R_move rfl) rfl rfl ?_)
  refine Ops_call (C_func bd11 rfl) rfl rfl ?_
  refine (sealskinlaw06_short_ok (x0 := x0) hI.st (hg.up hI.le) hc0 hs0 h).mono ?_
  rintro _ w4_ ⟨r4_0, L4_, H4_, rfl, hI4_, h⟩
  refine Exists.elim (hI.call hI4_ (by simp)) fun L40_ h4_ => ?_
  have hz4_ := hI.size
  replace hI := h4_.1
  have u4_ := h4_.2.1
  have hl4_ := h4_.2.2
  clear h4_
  replace hs0 := hs0.up u4_.hh
  replace hs2 := hs2.up u4_.hh
  replace hll3_ := hll3_.trans u4_.ll
  replace hhh3_ := hhh3_.trans u4_.hh
  clear hI4_ u4_ hl4_
  refine ⟨_, rfl, ?_⟩
  refine Ops_step (R_not rfl) rfl rfl (Ops_step (R_move rfl) rfl rfl ?_)
  refine Ops_splitB 19 rfl (fun hg5_ => ?_) (fun hg5_ => ?_)
  ·
   replace h := h.1 hg5_
   refine Ops_pass rfl rfl (Ops_pass rfl rfl (Ops_pass rfl rfl (Ops_step (R_pick_true rfl rfl) rfl rfl ?_)))
   refine Ops_nil ?_
   refine then_n ?_
   exact ⟨_, rfl, ⟨true, _, _, rfl, h, hI, hll3_, hhh3_, trivial⟩, ⟨rfl, rfl, rfl, trivial⟩⟩
  ·
   replace h := h.2 hg5_
   refine Ops_step (R_move rfl) rfl rfl (Ops_step (R_len Try.underlying29 rfl rfl) rfl rfl (Ops_step (R_gtr rfl rfl) rfl rfl (Ops_step (R_pick_false rfl rfl) rfl rfl ?_)))
   refine Ops_nil ?_
   refine then_n ?_
   exact ⟨_, rfl, ⟨(decide ((x2.length : Int) > 65536)), _, _, rfl, h, hI, hll3_, hhh3_, trivial⟩, ⟨rfl, rfl, rfl, trivial⟩⟩
 ·
  simp only [e_, Nat.reduceAdd, Nat.reduceBEq] at b_
  subst b_
  clear h
  rintro _ w3_ ⟨x23_3, L3_, H3_, rfl, hJ3_, hI3_, hll3_, hhh3_, -⟩
  replace hI := hI3_
  clear hI3_
  have h := hr3_ x23_3 hJ3_
  clear hr3_ hJ3_
  replace hs0 := hs0.up hhh3_
  replace hs2 := hs2.up hhh3_
  refine W_cond rfl (fun hc6_ => ?_) (fun hc6_ => ?_)
  ·
   replace h := h.1 hc6_
   refine W_seq_k fun K7 k7 => ?_
   refine W_region [24, 6] rfl ?_
   refine Ops_call (C_func bd12 rfl) rfl rfl ?_
   refine (sealskinlaw06_awake_ok  hI.st (hg.up hI.le)  h).mono ?_
   rintro _ w8_ ⟨r8_0, L8_, H8_, rfl, hI8_, h⟩
   refine Exists.elim (hI.call hI8_ (by simp)) fun L80_ h8_ => ?_
   have hz8_ := hI.size
   replace hI := h8_.1
   have u8_ := h8_.2.1
   have hl8_ := h8_.2.2
   clear h8_
   clear hI8_ u8_ hl8_
   refine ⟨_, rfl, ?_⟩
   refine Ops_step (R_assign rfl) rfl rfl ?_
   refine Ops_nil ?_
   refine then_n (k7 _ _ ?_)
   clear k7 K7
   refine W_ret ?_
   refine then_ret ?_
   clear k2 K2
   refine ⟨_, ⟨_, _, rfl, rfl, rfl⟩, ?_⟩
   exact ⟨r8_0, _, _, rfl, hI, h⟩
  ·
   replace h := h.2 hc6_
   refine W_skip ?_
   refine then_n (k2 _ _ ?_)
   clear k2 K2
   refine W_seq_k fun K9 k9 => ?_
   refine W_region [26, 25, 27, 28, 29, 7, 8, 9] rfl ?_
   refine Ops_call (C_func bd13 rfl) rfl rfl ?_
   refine (sealskinlaw06_begun_ok  hI.st (hg.up hI.le)  h).mono ?_
   rintro _ w10_ ⟨r10_2, o0_10, y10_o0, A10_o0_1, c10_o0_1, A10_o0_2, c10_o0_2, A10_o0_3, c10_o0_3, o1_10, y10_o1, A10_o1_1, c10_o1_1, o2_10, y10_o2, L10_, H10_, rfl, hI10_, hge_o0_10, ht10_o0, hc10_o0_1, hs10_o0_1, hc10_o0_2, hs10_o0_2, hc10_o0_3, hs10_o0_3, hge_o1_10, ht10_o1, hc10_o1_1, hs10_o1_1, hge_o2_10, ht10_o2, h⟩
   have hge0_o0_10 := hge_o0_10
   replace hge_o0_10 := Nat.le_trans hI.size hge_o0_10
   have hge0_o1_10 := hge_o1_10
   replace hge_o1_10 := Nat.le_trans hI.size hge_o1_10
   have hge0_o2_10 := hge_o2_10
   replace hge_o2_10 := Nat.le_trans hI.size hge_o2_10
   refine Exists.elim (hI.call hI10_ (by simp)) fun L100_ h10_ => ?_
   have hz10_ := hI.size
   replace hI := h10_.1
   have u10_ := h10_.2.1
   have hl10_ := h10_.2.2
   clear h10_
   replace hs0 := hs0.up u10_.hh
   replace hs2 := hs2.up u10_.hh
   clear hI10_ u10_ hl10_
   refine ⟨_, rfl, ?_⟩
   refine Ops_step (R_move rfl) rfl rfl ?_
   refine Ops_step (R_extract (v := .pointer (some ⟨o0_10, 0, none⟩)) rfl rfl) rfl rfl ?_
   refine Ops_step (R_extract (v := .pointer (some ⟨o1_10, 0, none⟩)) rfl rfl) rfl rfl ?_
   refine Ops_step (R_extract (v := .bool r10_2) rfl rfl) rfl rfl ?_
   refine Ops_step (R_assign rfl) rfl rfl (Ops_step (R_assign rfl) rfl rfl (Ops_step (R_assign rfl) rfl rfl ?_))
   refine Ops_nil ?_
   refine then_n (k9 _ _ ?_)
   clear k9 K9
   refine W_keepB [0, 1, 2, 7, 8, 9] fun B_ b_ => ?_
   simp only [e_, Nat.reduceAdd, Nat.reduceBEq] at b_
   subst b_
   refine W_seq_k fun K12 k12 => ?_
   refine W_seq_k fun K13 k13 => ?_
   refine W_region [30, 31] rfl (Ops_step (R_move rfl) rfl rfl (Ops_step (R_not rfl) rfl rfl ?_))
   refine Ops_nil ?_
   refine then_n (k13 _ _ ?_)
   clear k13 K13
   refine W_cond rfl (fun hc14_ => ?_) (fun hc14_ => ?_)
   ·
    replace h := h.1 hc14_
    refine W_seq_k fun K15 k15 => ?_
    refine W_region [6] rfl (Ops_step (R_assign rfl) rfl rfl ?_)
    refine Ops_nil ?_
    refine then_n (k15 _ _ ?_)
    clear k15 K15
    refine W_keepB [6] fun B_ b_ => ?_
    simp only [e_, Nat.reduceAdd, Nat.reduceBEq] at b_
    subst b_
    refine W_ret ?_
    refine then_ret ?_
    clear k12 K12
    refine ⟨_, ⟨_, _, rfl, rfl, rfl⟩, ?_⟩
    exact ⟨false, _, _, rfl, hI, h⟩
   ·
    replace h := h.2 hc14_
    refine W_skip ?_
    refine then_n (k12 _ _ ?_)
    clear k12 K12
    refine ex_ h fun J17_ hr17_ h => ?_
    refine W_seq_join [1, 2, 7, 8] [] (fun vals_ w2 => ∃ (yo0_10_17 : disk_Disk) (Ao0_10_17_1 : Option Addr) (co0_10_17_1 : Nat) (Ao0_10_17_2 : Option Addr) (co0_10_17_2 : Nat) (Ao0_10_17_3 : Option Addr) (co0_10_17_3 : Nat) (yo1_10_17 : journal_Journal) (Ao1_10_17_1 : Option Addr) (co1_10_17_1 : Nat) (yo2_10_17 : List (Int × Int)) (L H : Gh), vals_ = [] ∧ J17_ yo0_10_17 yo1_10_17 yo2_10_17 ∧ Inv [] G w L H w2 ∧ Le L100_ L ∧ Le H10_ H ∧ Tok H w2 o0_10 53 ([.slice Ao0_10_17_1 yo0_10_17.files_.e0_.length co0_10_17_1, .slice Ao0_10_17_2 yo0_10_17.files_.e1_.length co0_10_17_2, .slice Ao0_10_17_3 yo0_10_17.files_.e2_.length co0_10_17_3, vi yo0_10_17.room_, .bool yo0_10_17.off_, .bool yo0_10_17.armed_, vi yo0_10_17.left_]) ∧ yo0_10_17.files_.e0_.length ≤ co0_10_17_1 ∧ Sl H Ao0_10_17_1 yo0_10_17.files_.e0_ ∧ yo0_10_17.files_.e1_.length ≤ co0_10_17_2 ∧ Sl H Ao0_10_17_2 yo0_10_17.files_.e1_ ∧ yo0_10_17.files_.e2_.length ≤ co0_10_17_3 ∧ Sl H Ao0_10_17_3 yo0_10_17.files_.e2_ ∧ Tok H w2 o1_10 46 ([.slice Ao1_10_17_1 yo1_10_17.book_.l_.length co1_10_17_1, .map (some o2_10), .pointer (some ⟨o0_10, 0, none⟩), vi yo1_10_17.gen_, vi yo1_10_17.place_]) ∧ yo1_10_17.book_.l_.length ≤ co1_10_17_1 ∧ Sl H Ao1_10_17_1 yo1_10_17.book_.l_ ∧ MTok H H w2 o2_10 yo2_10_17 ∧ True) (fun B_ b_ => ?_) (fun B_ b_ => ?_)
    ·
     simp only [e_, Nat.reduceAdd, Nat.reduceBEq] at b_
     subst b_
     clear hr17_
     have hll17_ := Le.refl L100_
     have hhh17_ := Le.refl H10_
     refine W_seq_k fun K18 k18 => ?_
     refine W_region [32, 33, 34] rfl (Ops_step (R_move rfl) rfl rfl (Ops_step (R_len Try.underlying22 rfl rfl) rfl rfl (Ops_step (R_move rfl) rfl rfl ?_)))
     refine Ops_nil ?_
     refine then_n (k18 _ _ ?_)
     clear k18 K18
     refine W_block ?_
     refine Exists.elim h fun I19_ h => Exists.elim h fun n19_ h => ?_
     have h0_ := h.1
     have hs19_ := h.2
     clear h
     refine W_loopB [1, 2, 7, 8, 32, 33] [34] (fun m vals_ w2 => ∃ (x34_19 : Int) (yo0_10_19 : disk_Disk) (Ao0_10_19_1 : Option Addr) (co0_10_19_1 : Nat) (Ao0_10_19_2 : Option Addr) (co0_10_19_2 : Nat) (Ao0_10_19_3 : Option Addr) (co0_10_19_3 : Nat) (yo1_10_19 : journal_Journal) (Ao1_10_19_1 : Option Addr) (co1_10_19_1 : Nat) (yo2_10_19 : List (Int × Int)) (L H : Gh), vals_ = [vi x34_19] ∧ I19_ m x34_19 yo0_10_19 yo1_10_19 yo2_10_19 ∧ Inv [] G w L H w2 ∧ Le L100_ L ∧ Le H10_ H ∧ Tok H w2 o0_10 53 ([.slice Ao0_10_19_1 yo0_10_19.files_.e0_.length co0_10_19_1, .slice Ao0_10_19_2 yo0_10_19.files_.e1_.length co0_10_19_2, .slice Ao0_10_19_3 yo0_10_19.files_.e2_.length co0_10_19_3, vi yo0_10_19.room_, .bool yo0_10_19.off_, .bool yo0_10_19.armed_, vi yo0_10_19.left_]) ∧ yo0_10_19.files_.e0_.length ≤ co0_10_19_1 ∧ Sl H Ao0_10_19_1 yo0_10_19.files_.e0_ ∧ yo0_10_19.files_.e1_.length ≤ co0_10_19_2 ∧ Sl H Ao0_10_19_2 yo0_10_19.files_.e1_ ∧ yo0_10_19.files_.e2_.length ≤ co0_10_19_3 ∧ Sl H Ao0_10_19_3 yo0_10_19.files_.e2_ ∧ Tok H w2 o1_10 46 ([.slice Ao1_10_19_1 yo1_10_19.book_.l_.length co1_10_19_1, .map (some o2_10), .pointer (some ⟨o0_10, 0, none⟩), vi yo1_10_19.gen_, vi yo1_10_19.place_]) ∧ yo1_10_19.book_.l_.length ≤ co1_10_19_1 ∧ Sl H Ao1_10_19_1 yo1_10_19.book_.l_ ∧ MTok H H w2 o2_10 yo2_10_19 ∧ True) n19_ _ rfl ⟨0, y10_o0, A10_o0_1, c10_o0_1, A10_o0_2, c10_o0_2, A10_o0_3, c10_o0_3, y10_o1, A10_o1_1, c10_o1_1, y10_o2, _, _, rfl, h0_, hI, Le.refl _, Le.refl _, ht10_o0, hc10_o0_1, hs10_o0_1, hc10_o0_2, hs10_o0_2, hc10_o0_3, hs10_o0_3, ht10_o1, hc10_o1_1, hs10_o1_1, ht10_o2, trivial⟩ fun B_ b_ => ?_
     clear h0_
     simp only [e_, Nat.reduceAdd, Nat.reduceBEq] at b_
     subst b_
     rintro m19_ _ w19_ ⟨x34_19, yo0_10_19, Ao0_10_19_1, co0_10_19_1, Ao0_10_19_2, co0_10_19_2, Ao0_10_19_3, co0_10_19_3, yo1_10_19, Ao1_10_19_1, co1_10_19_1, yo2_10_19, L19_, H19_, rfl, hJ19_, hI19_, hll19_, hhh19_, hto0_10_19, hco0_10_19_1, hso0_10_19_1, hco0_10_19_2, hso0_10_19_2, hco0_10_19_3, hso0_10_19_3, hto1_10_19, hco1_10_19_1, hso1_10_19_1, hto2_10_19, -⟩
     replace hI := hI19_
     clear hI19_
     have h := hs19_ m19_ x34_19 yo0_10_19 yo1_10_19 yo2_10_19 hJ19_
     clear hs19_ hJ19_
     replace hs0 := hs0.up hhh19_
     replace hs2 := hs2.up hhh19_
     replace hll17_ := hll17_.trans hll19_
     replace hhh17_ := hhh17_.trans hhh19_
     refine W_seq_k fun K20 k20 => ?_
     refine W_region [35] rfl (Ops_step (R_lss rfl rfl) rfl rfl ?_)
     refine Ops_nil ?_
     refine then_n (k20 _ _ ?_)
     clear k20 K20
     refine W_seq_k fun K21 k21 => ?_
     refine W_if rfl (fun hc22_ => ?_) (fun hc22_ => ?_)
     ·
      replace h := h.1 hc22_
      refine W_skip ?_
      refine then_n (k21 _ _ ?_)
      clear k21 K21
      refine ex_ h fun J23_ hr23_ h => ?_
      refine W_seq_join [1, 2, 7, 8, 32, 33, 34] [] (fun vals_ w2 => ∃ (yo0_10_23 : disk_Disk) (Ao0_10_23_1 : Option Addr) (co0_10_23_1 : Nat) (Ao0_10_23_2 : Option Addr) (co0_10_23_2 : Nat) (Ao0_10_23_3 : Option Addr) (co0_10_23_3 : Nat) (yo1_10_23 : journal_Journal) (Ao1_10_23_1 : Option Addr) (co1_10_23_1 : Nat) (yo2_10_23 : List (Int × Int)) (L H : Gh), vals_ = [] ∧ J23_ yo0_10_23 yo1_10_23 yo2_10_23 ∧ Inv [] G w L H w2 ∧ Le L19_ L ∧ Le H19_ H ∧ Tok H w2 o0_10 53 ([.slice Ao0_10_23_1 yo0_10_23.files_.e0_.length co0_10_23_1, .slice Ao0_10_23_2 yo0_10_23.files_.e1_.length co0_10_23_2, .slice Ao0_10_23_3 yo0_10_23.files_.e2_.length co0_10_23_3, vi yo0_10_23.room_, .bool yo0_10_23.off_, .bool yo0_10_23.armed_, vi yo0_10_23.left_]) ∧ yo0_10_23.files_.e0_.length ≤ co0_10_23_1 ∧ Sl H Ao0_10_23_1 yo0_10_23.files_.e0_ ∧ yo0_10_23.files_.e1_.length ≤ co0_10_23_2 ∧ Sl H Ao0_10_23_2 yo0_10_23.files_.e1_ ∧ yo0_10_23.files_.e2_.length ≤ co0_10_23_3 ∧ Sl H Ao0_10_23_3 yo0_10_23.files_.e2_ ∧ Tok H w2 o1_10 46 ([.slice Ao1_10_23_1 yo1_10_23.book_.l_.length co1_10_23_1, .map (some o2_10), .pointer (some ⟨o0_10, 0, none⟩), vi yo1_10_23.gen_, vi yo1_10_23.place_]) ∧ yo1_10_23.book_.l_.length ≤ co1_10_23_1 ∧ Sl H Ao1_10_23_1 yo1_10_23.book_.l_ ∧ MTok H H w2 o2_10 yo2_10_23 ∧ True) (fun B_ b_ => ?_) (fun B_ b_ => ?_)
      ·
       simp only [e_, Nat.reduceAdd, Nat.reduceBEq] at b_
       subst b_
       clear hr23_
       have hll23_ := Le.refl L19_
       have hhh23_ := Le.refl H19_
       refine W_block ?_
       refine W_seq_k fun K24 k24 => ?_
       refine W_region [36, 37, 11, none] rfl ?_
       refine ex_ h fun x25_ hx25_ h => ?_
       have ha25_ := (Sl.atN (n := 4) rfl (by decide) hs0 hx25_).1
       refine Exists.elim (Sl.atN (n := 4) rfl (by decide) hs0 hx25_).2 fun l25_ hA25_ => ?_
       have hr25_ := hA25_.1
       have hg25_ := hA25_.2
       clear hA25_
       refine Ops_step (R_indexSl Try.underlying22 sz31 rfl rfl hx25_.1 hx25_.lt ha25_) rfl rfl ?_
       obtain ⟨A25_1, c25_1, rfl, ⟨hc25_1, hs25_1⟩⟩ := hr25_
       refine Ops_step (R_loadCs (cs := [vi x25_.Op_, vi x25_.Label_, vi x25_.N_, .slice A25_1 x25_.B_.length c25_1]) ag31 sz31 rfl (fun j_ v_ hv_ => hI.st _ _ (hg25_ j_ v_ hv_))) rfl rfl ?_
       have hI0_ := hI
       refine Ops_to (R_alloc zr31) rfl rfl ?_
       rintro _ w26_ ⟨b26_, rfl, hb26_, hB26_, hF26_⟩
       replace hI := hI.fr0 hF26_
       replace hto0_10_19 := hto0_10_19.fr0 hF26_
       replace hto1_10_19 := hto1_10_19.fr0 hF26_
       replace hto2_10_19 := hto2_10_19.fr0 hF26_
       have ht26_ : Tok H19_ _ b26_ 31 ([vi 0, vi 0, vi 0, .slice none 0 0]) := ⟨hB26_.to rfl, Out.ge hI0_.st (Nat.le_of_eq hb26_.symm)⟩
       have hge_b26_ : w.heap.size ≤ b26_ := hb26_ ▸ hI0_.size
       clear hB26_ hb26_ hI0_ hF26_
       refine Ops_to0 (R_storeN sz31 rfl rfl rfl ht26_.blk (Nat.le_of_ble_eq_true rfl) rfl) rfl ?_
       rintro _ w27_ ⟨hB27_, hF27_⟩
       replace hI := hI.tok hF27_ (out1 ht26_.out) (new1 hge_b26_)
       replace hto0_10_19 := hto0_10_19.fr hF27_ (hto0_10_19.apart ht26_ (by decide))
       replace hto1_10_19 := hto1_10_19.fr hF27_ (hto1_10_19.apart ht26_ (by decide))
       replace hto2_10_19 := hto2_10_19.fr hF27_ (hto2_10_19.neT ht26_)
       replace ht26_ : Tok H19_ _ b26_ 31 ([vi x25_.Op_, vi x25_.Label_, vi x25_.N_, .slice A25_1 x25_.B_.length c25_1]) := ⟨hB27_, ht26_.out⟩
       clear hF27_ hB27_
       refine Ops_nil ?_
       refine then_n (k24 _ _ ?_)
       clear k24 K24
       refine W_seq_k fun K28 k28 => ?_
       refine W_region [38, 39, 40, 41] rfl (Ops_step (R_fieldAddr fo31_0 rfl) rfl rfl ?_)
       refine Ops_step (R_loadB (v := vi x25_.Op_) ag3 rfl ht26_.blk rfl) rfl rfl ?_
       refine Ops_step (R_and rfl rfl (andI_wrap _ _)) rfl rfl (Ops_step (R_lss rfl rfl) rfl rfl ?_)
       refine Ops_nil ?_
       refine then_n (k28 _ _ ?_)
       clear k28 K28
       refine W_keepB [1, 2, 7, 8, 11, 32, 33, 34, 41] fun B_ b_ => ?_
       simp only [e_, Nat.reduceAdd, Nat.reduceBEq] at b_
       subst b_
       refine W_if rfl (fun hc30_ => ?_) (fun hc30_ => ?_)
       ·
        replace h := h.1 hc30_
        refine W_region [42, 43, 44, 45, 46, 47] rfl (Ops_step (R_move rfl) rfl rfl (Ops_step (R_fieldAddr fo31_1 rfl) rfl rfl ?_))
        refine Ops_step (R_loadB (v := vi x25_.Label_) ag3 rfl ht26_.blk rfl) rfl rfl ?_
        refine Ops_step (R_fieldAddr fo31_3 rfl) rfl rfl ?_
        refine Ops_step (R_loadB (v := .slice A25_1 x25_.B_.length c25_1) ag29 rfl ht26_.blk rfl) rfl rfl ?_
        refine Ops_call (C_func bd15 rfl) rfl rfl ?_
        refine (journal_Journal_Put_ok (x1 := x25_.Label_) (x2 := x25_.B_) (z0 := yo1_10_19) (z1 := yo2_10_19) (z2 := yo0_10_19) hI.st (hg.up hI.le) hto2_10_19 hto0_10_19 hco0_10_19_1 hso0_10_19_1 hco0_10_19_2 hso0_10_19_2 hco0_10_19_3 hso0_10_19_3 hto1_10_19 hco1_10_19_1 hso1_10_19_1 hc25_1 hs25_1 h).mono ?_
        rintro _ w31_ ⟨r31_0, y31_o0, A31_o0_1, c31_o0_1, y31_o1, y31_o2, A31_o2_1, c31_o2_1, A31_o2_2, c31_o2_2, A31_o2_3, c31_o2_3, L31_, H31_, rfl, hI31_, ht31_o0, hc31_o0_1, hs31_o0_1, ht31_o1, ht31_o2, hc31_o2_1, hs31_o2_1, hc31_o2_2, hs31_o2_2, hc31_o2_3, hs31_o2_3, h⟩
        refine Exists.elim (hI.call hI31_ (memG hge_o1_10 (memG hge_o2_10 (memG hge_o0_10 memN)))) fun L310_ h31_ => ?_
        have hz31_ := hI.size
        replace hI := h31_.1
        have u31_ := h31_.2.1
        have hl31_ := h31_.2.2
        clear h31_
        replace hs0 := hs0.up u31_.hh
        replace hs2 := hs2.up u31_.hh
        replace hll17_ := hll17_.trans u31_.ll
        replace hhh17_ := hhh17_.trans u31_.hh
        replace hso0_10_19_1 := hso0_10_19_1.up u31_.hh
        replace hso0_10_19_2 := hso0_10_19_2.up u31_.hh
        replace hso0_10_19_3 := hso0_10_19_3.up u31_.hh
        replace hso1_10_19_1 := hso1_10_19_1.up u31_.hh
        replace hll19_ := hll19_.trans u31_.ll
        replace hhh19_ := hhh19_.trans u31_.hh
        replace hll23_ := hll23_.trans u31_.ll
        replace hhh23_ := hhh23_.trans u31_.hh
        clear hto1_10_19
        clear hto2_10_19
        clear hto0_10_19
        clear hI31_ u31_ hl31_
        refine ⟨_, rfl, ?_⟩
        refine Ops_nil ?_
        refine block_n ?_
        refine then_n ?_
        exact ⟨_, rfl, ⟨y31_o2, A31_o2_1, c31_o2_1, A31_o2_2, c31_o2_2, A31_o2_3, c31_o2_3, y31_o0, A31_o0_1, c31_o0_1, y31_o1, _, _, rfl, h, hI, hll23_, hhh23_, ht31_o2, hc31_o2_1, hs31_o2_1, hc31_o2_2, hs31_o2_2, hc31_o2_3, hs31_o2_3, ht31_o0, hc31_o0_1, hs31_o0_1, ht31_o1, trivial⟩, ⟨rfl, rfl, rfl, rfl, rfl, rfl, rfl, trivial⟩⟩
       ·
        replace h := h.2 hc30_
        refine W_skip ?_
        refine block_n ?_
        refine then_n ?_
        exact ⟨_, rfl, ⟨yo0_10_19, Ao0_10_19_1, co0_10_19_1, Ao0_10_19_2, co0_10_19_2, Ao0_10_19_3, co0_10_19_3, yo1_10_19, Ao1_10_19_1, co1_10_19_1, yo2_10_19, _, _, rfl, h, hI, hll23_, hhh23_, hto0_10_19, hco0_10_19_1, hso0_10_19_1, hco0_10_19_2, hso0_10_19_2, hco0_10_19_3, hso0_10_19_3, hto1_10_19, hco1_10_19_1, hso1_10_19_1, hto2_10_19, trivial⟩, ⟨rfl, rfl, rfl, rfl, rfl, rfl, rfl, trivial⟩⟩
      ·
       simp only [e_, Nat.reduceAdd, Nat.reduceBEq] at b_
       subst b_
       clear h
       rintro _ w23_ ⟨yo0_10_23, Ao0_10_23_1, co0_10_23_1, Ao0_10_23_2, co0_10_23_2, Ao0_10_23_3, co0_10_23_3, yo1_10_23, Ao1_10_23_1, co1_10_23_1, yo2_10_23, L23_, H23_, rfl, hJ23_, hI23_, hll23_, hhh23_, hto0_10_23, hco0_10_23_1, hso0_10_23_1, hco0_10_23_2, hso0_10_23_2, hco0_10_23_3, hso0_10_23_3, hto1_10_23, hco1_10_23_1, hso1_10_23_1, hto2_10_23, -⟩
       replace hI := hI23_
       clear hI23_
       have h := hr23_ yo0_10_23 yo1_10_23 yo2_10_23 hJ23_
       clear hr23_ hJ23_
       replace hs0 := hs0.up hhh23_
       replace hs2 := hs2.up hhh23_
       replace hll17_ := hll17_.trans hll23_
       replace hhh17_ := hhh17_.trans hhh23_
       replace hll19_ := hll19_.trans hll23_
       replace hhh19_ := hhh19_.trans hhh23_
       refine W_region [48, 34] rfl ?_
       have hk32_ := h.1
       replace h := h.2
       refine Ops_step (R_add rfl rfl (wI hk32_.1 hk32_.2)) rfl rfl (Ops_step (R_move rfl) rfl rfl ?_)
       refine Ops_nil ?_
       refine then_n ?_
       exact h.elim fun m_ h => ⟨m_, _, h.1, rfl, ⟨(x34_19 + 1), yo0_10_23, Ao0_10_23_1, co0_10_23_1, Ao0_10_23_2, co0_10_23_2, Ao0_10_23_3, co0_10_23_3, yo1_10_23, Ao1_10_23_1, co1_10_23_1, yo2_10_23, _, _, rfl, h.2, hI, hll19_, hhh19_, hto0_10_23, hco0_10_23_1, hso0_10_23_1, hco0_10_23_2, hso0_10_23_2, hco0_10_23_3, hso0_10_23_3, hto1_10_23, hco1_10_23_1, hso1_10_23_1, hto2_10_23, trivial⟩, ⟨rfl, rfl, rfl, rfl, rfl, rfl, trivial⟩⟩
     ·
      replace h := h.2 hc22_
      refine W_exit ?_
      refine then_exit ?_
      clear k21 K21
      refine then_exit ?_
      refine block_exit ?_
      refine then_n ?_
      exact ⟨_, rfl, ⟨yo0_10_19, Ao0_10_19_1, co0_10_19_1, Ao0_10_19_2, co0_10_19_2, Ao0_10_19_3, co0_10_19_3, yo1_10_19, Ao1_10_19_1, co1_10_19_1, yo2_10_19, _, _, rfl, h, hI, hll17_, hhh17_, hto0_10_19, hco0_10_19_1, hso0_10_19_1, hco0_10_19_2, hso0_10_19_2, hco0_10_19_3, hso0_10_19_3, hto1_10_19, hco1_10_19_1, hso1_10_19_1, hto2_10_19, trivial⟩, ⟨rfl, rfl, rfl, rfl, trivial⟩⟩
    ·
     simp only [e_, Nat.reduceAdd, Nat.reduceBEq] at b_
     subst b_
     clear h
     rintro _ w17_ ⟨yo0_10_17, Ao0_10_17_1, co0_10_17_1, Ao0_10_17_2, co0_10_17_2, Ao0_10_17_3, co0_10_17_3, yo1_10_17, Ao1_10_17_1, co1_10_17_1, yo2_10_17, L17_, H17_, rfl, hJ17_, hI17_, hll17_, hhh17_, hto0_10_17, hco0_10_17_1, hso0_10_17_1, hco0_10_17_2, hso0_10_17_2, hco0_10_17_3, hso0_10_17_3, hto1_10_17, hco1_10_17_1, hso1_10_17_1, hto2_10_17, -⟩
     replace hI := hI17_
     clear hI17_
     have h := hr17_ yo0_10_17 yo1_10_17 yo2_10_17 hJ17_
     clear hr17_ hJ17_
     replace hs2 := hs2.up hhh17_
     refine W_seq_k fun K33 k33 => ?_
     refine W_region [49, 50, 12] rfl (Ops_step (R_move rfl) rfl rfl ?_)
     refine Ops_call (C_func bd16 rfl) rfl rfl ?_
     refine (sealskinlaw06_records_ok (z0 := yo1_10_17) (z1 := yo2_10_17) (z2 := yo0_10_17) hI.st (hg.up hI.le) hto2_10_17 hto0_10_17 hco0_10_17_1 hso0_10_17_1 hco0_10_17_2 hso0_10_17_2 hco0_10_17_3 hso0_10_17_3 hto1_10_17 hco1_10_17_1 hso1_10_17_1 h).mono ?_
     rintro _ w34_ ⟨A34_0, c34_0, r34_0, L34_, H34_, rfl, hI34_, ho34_0, h⟩
     refine Exists.elim (hI.call hI34_ (by simp)) fun L340_ h34_ => ?_
     have hz34_ := hI.size
     replace hI := h34_.1
     have u34_ := h34_.2.1
     have hl34_ := h34_.2.2
     clear h34_
     replace hs2 := hs2.up u34_.hh
     replace hto0_10_17 := hto0_10_17.up u34_ (by simp)
     replace hso0_10_17_1 := hso0_10_17_1.up u34_.hh
     replace hso0_10_17_2 := hso0_10_17_2.up u34_.hh
     replace hso0_10_17_3 := hso0_10_17_3.up u34_.hh
     replace hto1_10_17 := hto1_10_17.up u34_ (by simp)
     replace hso1_10_17_1 := hso1_10_17_1.up u34_.hh
     replace hto2_10_17 := hto2_10_17.up u34_.hh u34_ (by simp)
     replace ho34_0 := OwnS.back ho34_0 hz34_ hl34_ (Le.refl _)
     clear hI34_ u34_ hl34_
     refine ⟨_, rfl, ?_⟩
     refine Exists.elim (ho34_0.freeze hI) fun L35_ h35_ => Exists.elim h35_ fun H35_ h35_ => ?_
     replace hI := h35_.1
     have u35_ := h35_.2.1
     have hs35_ := h35_.2.2.1 (Le.refl _)
     have hc35_ := ho34_0.cap
     replace hs2 := hs2.up u35_.hh
     replace hto0_10_17 := hto0_10_17.up u35_ (hto0_10_17.sep ho34_0 (by decide))
     replace hso0_10_17_1 := hso0_10_17_1.up u35_.hh
     replace hso0_10_17_2 := hso0_10_17_2.up u35_.hh
     replace hso0_10_17_3 := hso0_10_17_3.up u35_.hh
     replace hto1_10_17 := hto1_10_17.up u35_ (hto1_10_17.sep ho34_0 (by decide))
     replace hso1_10_17_1 := hso1_10_17_1.up u35_.hh
     replace hto2_10_17 := hto2_10_17.up u35_.hh u35_ (hto2_10_17.neO ho34_0)
     clear h35_ u35_ ho34_0
     refine Ops_step (R_assign rfl) rfl rfl ?_
     refine Ops_nil ?_
     refine then_n (k33 _ _ ?_)
     clear k33 K33
     refine W_seq_k fun K36 k36 => ?_
     refine W_region [51, 52, 53, 54, 13] rfl (Ops_step (R_move rfl) rfl rfl (Ops_step (R_move rfl) rfl rfl (Ops_step (R_move rfl) rfl rfl ?_)))
     refine Ops_call (C_func bd15 rfl) rfl rfl ?_
     refine (journal_Journal_Put_ok (x1 := x1) (x2 := x2) (z0 := yo1_10_17) (z1 := yo2_10_17) (z2 := yo0_10_17) hI.st (hg.up hI.le) hto2_10_17 hto0_10_17 hco0_10_17_1 hso0_10_17_1 hco0_10_17_2 hso0_10_17_2 hco0_10_17_3 hso0_10_17_3 hto1_10_17 hco1_10_17_1 hso1_10_17_1 hc2 hs2 h).mono ?_
     rintro _ w37_ ⟨r37_0, y37_o0, A37_o0_1, c37_o0_1, y37_o1, y37_o2, A37_o2_1, c37_o2_1, A37_o2_2, c37_o2_2, A37_o2_3, c37_o2_3, L37_, H37_, rfl, hI37_, ht37_o0, hc37_o0_1, hs37_o0_1, ht37_o1, ht37_o2, hc37_o2_1, hs37_o2_1, hc37_o2_2, hs37_o2_2, hc37_o2_3, hs37_o2_3, h⟩
     refine Exists.elim (hI.call hI37_ (memG hge_o1_10 (memG hge_o2_10 (memG hge_o0_10 memN)))) fun L370_ h37_ => ?_
     have hz37_ := hI.size
     replace hI := h37_.1
     have u37_ := h37_.2.1
     have hl37_ := h37_.2.2
     clear h37_
     replace hs2 := hs2.up u37_.hh
     replace hso0_10_17_1 := hso0_10_17_1.up u37_.hh
     replace hso0_10_17_2 := hso0_10_17_2.up u37_.hh
     replace hso0_10_17_3 := hso0_10_17_3.up u37_.hh
     replace hso1_10_17_1 := hso1_10_17_1.up u37_.hh
     replace hs35_ := hs35_.up u37_.ll
     clear hto1_10_17
     clear hto2_10_17
     clear hto0_10_17
     clear hI37_ u37_ hl37_
     refine ⟨_, rfl, ?_⟩
     refine Ops_step (R_assign rfl) rfl rfl ?_
     refine Ops_nil ?_
     refine then_n (k36 _ _ ?_)
     clear k36 K36
     refine W_keepB [1, 2, 7, 8, 12, 13] fun B_ b_ => ?_
     simp only [e_, Nat.reduceAdd, Nat.reduceBEq] at b_
     subst b_
     refine W_seq_k fun K39 k39 => ?_
     refine W_seq_k fun K40 k40 => ?_
     refine W_region [55, 56] rfl (Ops_step (R_move rfl) rfl rfl (Ops_step (R_eql rfl rfl) rfl rfl ?_))
     refine Ops_nil ?_
     refine then_n (k40 _ _ ?_)
     clear k40 K40
     refine W_if rfl (fun hc41_ => ?_) (fun hc41_ => ?_)
     ·
      replace h := h.1 hc41_
      refine W_seq_k fun K42 k42 => ?_
      refine W_region [57, 58, 59, 60, 61, 62, 63, 64, 65, 66, 67, 68, 69, 70, 6] rfl (Ops_step (R_move rfl) rfl rfl (Ops_step (R_geq rfl rfl) rfl rfl (Ops_step (R_move rfl) rfl rfl ?_)))
      refine Ops_split 59 rfl (fun hg43_ => ?_) (fun hg43_ => ?_)
      ·
       replace h := h.1 hg43_
       refine Ops_step (R_move rfl) rfl rfl (Ops_step (R_lss rfl rfl) rfl rfl (Ops_step (R_pick_true rfl rfl) rfl rfl (Ops_step (R_move rfl) rfl rfl ?_)))
       refine Ops_split 63 rfl (fun hg44_ => ?_) (fun hg44_ => ?_)
       ·
        replace h := h.1 hg44_
        refine Ops_step (R_move rfl) rfl rfl (Ops_step (R_len Try.underlying29 rfl rfl) rfl rfl (Ops_step (R_leq rfl rfl) rfl rfl (Ops_step (R_pick_true rfl rfl) rfl rfl (Ops_step (R_move rfl) rfl rfl ?_))))
        refine Ops_split 68 rfl (fun hg45_ => ?_) (fun hg45_ => ?_)
        ·
         replace h := h.1 hg45_
         refine Ops_call (C_func bd12 rfl) rfl rfl ?_
         refine (sealskinlaw06_awake_ok  hI.st (hg.up hI.le)  h).mono ?_
         rintro _ w46_ ⟨r46_0, L46_, H46_, rfl, hI46_, h⟩
         refine Exists.elim (hI.call hI46_ (by simp)) fun L460_ h46_ => ?_
         have hz46_ := hI.size
         replace hI := h46_.1
         have u46_ := h46_.2.1
         have hl46_ := h46_.2.2
         clear h46_
         clear hI46_ u46_ hl46_
         refine ⟨_, rfl, ?_⟩
         refine Ops_step (R_pick_true rfl rfl) rfl rfl (Ops_step (R_assign rfl) rfl rfl ?_)
         refine Ops_nil ?_
         refine then_n (k42 _ _ ?_)
         clear k42 K42
         refine W_keepB [6] fun B_ b_ => ?_
         simp only [e_, Nat.reduceAdd, Nat.reduceBEq] at b_
         subst b_
         refine W_ret ?_
         refine then_ret ?_
         clear k39 K39
         refine ⟨_, ⟨_, _, rfl, rfl, rfl⟩, ?_⟩
         exact ⟨r46_0, _, _, rfl, hI, h⟩
        ·
         replace h := h.2 hg45_
         refine Ops_pass rfl rfl (Ops_step (R_pick_false rfl rfl) rfl rfl (Ops_step (R_assign rfl) rfl rfl ?_))
         refine Ops_nil ?_
         refine then_n (k42 _ _ ?_)
         clear k42 K42
         refine W_keepB [6] fun B_ b_ => ?_
         simp only [e_, Nat.reduceAdd, Nat.reduceBEq] at b_
         subst b_
         refine W_ret ?_
         refine then_ret ?_
         clear k39 K39
         refine ⟨_, ⟨_, _, rfl, rfl, rfl⟩, ?_⟩
         exact ⟨false, _, _, rfl, hI, h⟩
       ·
        replace h := h.2 hg44_
        refine Ops_pass rfl rfl (Ops_pass rfl rfl (Ops_pass rfl rfl (Ops_step (R_pick_false rfl rfl) rfl rfl (Ops_step (R_move rfl) rfl rfl ?_))))
        refine Ops_pass rfl rfl (Ops_step (R_pick_false rfl rfl) rfl rfl (Ops_step (R_assign rfl) rfl rfl ?_))
        refine Ops_nil ?_
        refine then_n (k42 _ _ ?_)
        clear k42 K42
        refine W_keepB [6] fun B_ b_ => ?_
        simp only [e_, Nat.reduceAdd, Nat.reduceBEq] at b_
        subst b_
        refine W_ret ?_
        refine then_ret ?_
        clear k39 K39
        refine ⟨_, ⟨_, _, rfl, rfl, rfl⟩, ?_⟩
        exact ⟨false, _, _, rfl, hI, h⟩
      ·
       replace h := h.2 hg43_
       refine Ops_pass rfl rfl (Ops_pass rfl rfl (Ops_step (R_pick_false rfl rfl) rfl rfl (Ops_step (R_move rfl) rfl rfl (Ops_pass rfl rfl ?_))))
       refine Ops_pass rfl rfl (Ops_pass rfl rfl (Ops_step (R_pick_false rfl rfl) rfl rfl (Ops_step (R_move rfl) rfl rfl (Ops_pass rfl rfl ?_))))
       refine Ops_step (R_pick_false rfl rfl) rfl rfl (Ops_step (R_assign rfl) rfl rfl ?_)
       refine Ops_nil ?_
       refine then_n (k42 _ _ ?_)
       clear k42 K42
       refine W_keepB [6] fun B_ b_ => ?_
       simp only [e_, Nat.reduceAdd, Nat.reduceBEq] at b_
       subst b_
       refine W_ret ?_
       refine then_ret ?_
       clear k39 K39
       refine ⟨_, ⟨_, _, rfl, rfl, rfl⟩, ?_⟩
       exact ⟨false, _, _, rfl, hI, h⟩
     ·
      replace h := h.2 hc41_
      refine W_skip ?_
      refine then_n (k39 _ _ ?_)
      clear k39 K39
      refine W_seq_k fun K51 k51 => ?_
      refine W_region [72, 73, 74, 71, 75, 76, 14, 15] rfl (Ops_step (R_move rfl) rfl rfl ?_)
      refine Ops_call (C_func bd30 rfl) rfl rfl ?_
      refine (disk_Disk_Clone_ok (z0 := y37_o2) hI.st (hg.up hI.le) ht37_o2 hc37_o2_1 hs37_o2_1 hc37_o2_2 hs37_o2_2 hc37_o2_3 hs37_o2_3 h).mono ?_
      have hlo52_o0_10 := ht37_o2.blk.lt
      rintro _ w52_ ⟨o1_52, y52_o1, A52_o1_1, c52_o1_1, A52_o1_2, c52_o1_2, A52_o1_3, c52_o1_3, L52_, H52_, rfl, hI52_, hge_o1_52, ht52_o1, hc52_o1_1, hs52_o1_1, hc52_o1_2, hs52_o1_2, hc52_o1_3, hs52_o1_3, h⟩
      have hge0_o1_52 := hge_o1_52
      replace hge_o1_52 := Nat.le_trans hI.size hge_o1_52
      refine Exists.elim (hI.call hI52_ (by simp)) fun L520_ h52_ => ?_
      have hz52_ := hI.size
      replace hI := h52_.1
      have u52_ := h52_.2.1
      have hl52_ := h52_.2.2
      clear h52_
      replace hs35_ := hs35_.up u52_.ll
      replace ht37_o0 := ht37_o0.up u52_ (by simp)
      replace hs37_o0_1 := hs37_o0_1.up u52_.hh
      replace ht37_o1 := ht37_o1.up u52_.hh u52_ (by simp)
      replace ht37_o2 := ht37_o2.up u52_ (by simp)
      replace hs37_o2_1 := hs37_o2_1.up u52_.hh
      replace hs37_o2_2 := hs37_o2_2.up u52_.hh
      replace hs37_o2_3 := hs37_o2_3.up u52_.hh
      have hneo1_52_o0_10 : o0_10 ≠ o1_52 := fun e_ => absurd hlo52_o0_10 (by omega)
      clear hI52_ u52_ hl52_
      refine ⟨_, rfl, ?_⟩
      refine Ops_call (C_func bd20 rfl) rfl rfl ?_
      refine (journal_Open_ok (z0 := y52_o1) hI.st (hg.up hI.le) ht52_o1 hc52_o1_1 hs52_o1_1 hc52_o1_2 hs52_o1_2 hc52_o1_3 hs52_o1_3 h).mono ?_
      have hlo53_o1_10 := ht37_o0.blk.lt
      have hlo53_o2_10 := ht37_o1.lt
      rintro _ w53_ (⟨r53a_1, y53a_o0, A53a_o0_1, c53a_o0_1, A53a_o0_2, c53a_o0_2, A53a_o0_3, c53a_o0_3, L53a_, H53a_, rfl, hI53a_, ht53a_o0, hc53a_o0_1, hs53a_o0_1, hc53a_o0_2, hs53a_o0_2, hc53a_o0_3, hs53a_o0_3, h⟩ | ⟨r53b_1, y53b_o0, A53b_o0_1, c53b_o0_1, A53b_o0_2, c53b_o0_2, A53b_o0_3, c53b_o0_3, o1_53b, y53b_o1, A53b_o1_1, c53b_o1_1, o2_53b, y53b_o2, L53b_, H53b_, rfl, hI53b_, ht53b_o0, hc53b_o0_1, hs53b_o0_1, hc53b_o0_2, hs53b_o0_2, hc53b_o0_3, hs53b_o0_3, hge_o1_53b, ht53b_o1, hc53b_o1_1, hs53b_o1_1, hge_o2_53b, ht53b_o2, h⟩)
      ·
       exact h.elim
      ·
       have hge0_o1_53b := hge_o1_53b
       replace hge_o1_53b := Nat.le_trans hI.size hge_o1_53b
       have hge0_o2_53b := hge_o2_53b
       replace hge_o2_53b := Nat.le_trans hI.size hge_o2_53b
       refine Exists.elim (hI.call hI53b_ (new1 hge_o1_52)) fun L53b0_ h53b_ => ?_
       have hz53b_ := hI.size
       replace hI := h53b_.1
       have u53b_ := h53b_.2.1
       have hl53b_ := h53b_.2.2
       clear h53b_
       replace hs35_ := hs35_.up u53b_.ll
       replace ht37_o0 := ht37_o0.up u53b_ (ht37_o0.apart ht52_o1 (by decide))
       replace hs37_o0_1 := hs37_o0_1.up u53b_.hh
       replace ht37_o1 := ht37_o1.up u53b_.hh u53b_ (ht37_o1.neT ht52_o1)
       replace ht37_o2 := ht37_o2.up u53b_ (ne1 hneo1_52_o0_10)
       replace hs37_o2_1 := hs37_o2_1.up u53b_.hh
       replace hs37_o2_2 := hs37_o2_2.up u53b_.hh
       replace hs37_o2_3 := hs37_o2_3.up u53b_.hh
       replace hs52_o1_1 := hs52_o1_1.up u53b_.hh
       replace hs52_o1_2 := hs52_o1_2.up u53b_.hh
       replace hs52_o1_3 := hs52_o1_3.up u53b_.hh
       clear ht52_o1
       have hneo1_53b_o1_10 : o1_10 ≠ o1_53b := fun e_ => absurd hlo53_o1_10 (by omega)
       have hneo2_53b_o2_10 : o2_10 ≠ o2_53b := fun e_ => absurd hlo53_o2_10 (by omega)
       clear hI53b_ u53b_ hl53b_
       refine ⟨_, rfl, ?_⟩
       refine Ops_step (R_move rfl) rfl rfl ?_
       refine Ops_step (R_extract (v := .pointer (some ⟨o1_53b, 0, none⟩)) rfl rfl) rfl rfl ?_
       refine Ops_step (R_extract (v := vi r53b_1) rfl rfl) rfl rfl ?_
       refine Ops_step (R_assign rfl) rfl rfl (Ops_step (R_assign rfl) rfl rfl ?_)
       refine Ops_nil ?_
       refine then_n (k51 _ _ ?_)
       clear k51 K51
       refine W_keepB [8, 12, 14, 15] fun B_ b_ => ?_
       simp only [e_, Nat.reduceAdd, Nat.reduceBEq] at b_
       subst b_
       refine W_seq_k fun K55 k55 => ?_
       refine W_region [77, 78, 79, 80, 81, 82, 83, 84, 85, 86, 87, 88, 89, 90, 91, 92, 93, 6] rfl (Ops_step (R_move rfl) rfl rfl (Ops_step (R_eql rfl rfl) rfl rfl (Ops_step (R_move rfl) rfl rfl ?_)))
       refine Ops_split 79 rfl (fun hg56_ => ?_) (fun hg56_ => ?_)
       ·
        replace h := h.1 hg56_
        refine Ops_step (R_move rfl) rfl rfl ?_
        refine Ops_call (C_func bd16 rfl) rfl rfl ?_
        refine (sealskinlaw06_records_ok (z0 := y37_o0) (z1 := y37_o1) (z2 := y37_o2) hI.st (hg.up hI.le) ht37_o1 ht37_o2 hc37_o2_1 hs37_o2_1 hc37_o2_2 hs37_o2_2 hc37_o2_3 hs37_o2_3 ht37_o0 hc37_o0_1 hs37_o0_1 h).mono ?_
        rintro _ w57_ ⟨A57_0, c57_0, r57_0, L57_, H57_, rfl, hI57_, ho57_0, h⟩
        refine Exists.elim (hI.call hI57_ (by simp)) fun L570_ h57_ => ?_
        have hz57_ := hI.size
        replace hI := h57_.1
        have u57_ := h57_.2.1
        have hl57_ := h57_.2.2
        clear h57_
        replace hs35_ := hs35_.up u57_.ll
        replace ht37_o0 := ht37_o0.up u57_ (by simp)
        replace hs37_o0_1 := hs37_o0_1.up u57_.hh
        replace ht37_o1 := ht37_o1.up u57_.hh u57_ (by simp)
        replace ht37_o2 := ht37_o2.up u57_ (by simp)
        replace hs37_o2_1 := hs37_o2_1.up u57_.hh
        replace hs37_o2_2 := hs37_o2_2.up u57_.hh
        replace hs37_o2_3 := hs37_o2_3.up u57_.hh
        replace ht53b_o0 := ht53b_o0.up u57_ (by simp)
        replace hs53b_o0_1 := hs53b_o0_1.up u57_.hh
        replace hs53b_o0_2 := hs53b_o0_2.up u57_.hh
        replace hs53b_o0_3 := hs53b_o0_3.up u57_.hh
        replace ht53b_o1 := ht53b_o1.up u57_ (by simp)
        replace hs53b_o1_1 := hs53b_o1_1.up u57_.hh
        replace ht53b_o2 := ht53b_o2.up u57_.hh u57_ (by simp)
        replace ho57_0 := OwnS.back ho57_0 hz57_ hl57_ (Le.refl _)
        clear hI57_ u57_ hl57_
        refine ⟨_, rfl, ?_⟩
        refine Exists.elim (ho57_0.freeze hI) fun L58_ h58_ => Exists.elim h58_ fun H58_ h58_ => ?_
        replace hI := h58_.1
        have u58_ := h58_.2.1
        have hs58_ := h58_.2.2.1 (Le.refl _)
        have hc58_ := ho57_0.cap
        replace hs35_ := hs35_.up u58_.ll
        replace ht53b_o0 := ht53b_o0.up u58_ (ht53b_o0.sep ho57_0 (by decide))
        replace hs53b_o0_1 := hs53b_o0_1.up u58_.hh
        replace hs53b_o0_2 := hs53b_o0_2.up u58_.hh
        replace hs53b_o0_3 := hs53b_o0_3.up u58_.hh
        replace ht53b_o1 := ht53b_o1.up u58_ (ht53b_o1.sep ho57_0 (by decide))
        replace hs53b_o1_1 := hs53b_o1_1.up u58_.hh
        replace ht53b_o2 := ht53b_o2.up u58_.hh u58_ (ht53b_o2.neO ho57_0)
        clear h58_ u58_ ho57_0
        refine Ops_step (R_move rfl) rfl rfl ?_
        refine Ops_call (C_func bd23 rfl) rfl rfl ?_
        refine (slices_Equal_sealskinref06_Record_sealskinref06_Record_ok (x0 := r57_0) (x1 := r34_0) hI.st (hg.up hI.le) hc58_ (hs58_.up hI.sub) hc35_ (hs35_.up hI.sub) h).mono ?_
        rintro _ w59_ ⟨r59_0, L59_, H59_, rfl, hI59_, h⟩
        refine Exists.elim (hI.call hI59_ (by simp)) fun L590_ h59_ => ?_
        have hz59_ := hI.size
        replace hI := h59_.1
        have u59_ := h59_.2.1
        have hl59_ := h59_.2.2
        clear h59_
        replace hs35_ := hs35_.up u59_.ll
        replace ht53b_o0 := ht53b_o0.up u59_ (by simp)
        replace hs53b_o0_1 := hs53b_o0_1.up u59_.hh
        replace hs53b_o0_2 := hs53b_o0_2.up u59_.hh
        replace hs53b_o0_3 := hs53b_o0_3.up u59_.hh
        replace ht53b_o1 := ht53b_o1.up u59_ (by simp)
        replace hs53b_o1_1 := hs53b_o1_1.up u59_.hh
        replace ht53b_o2 := ht53b_o2.up u59_.hh u59_ (by simp)
        clear hI59_ u59_ hl59_
        refine ⟨_, rfl, ?_⟩
        refine Ops_step (R_pick_true rfl rfl) rfl rfl (Ops_step (R_move rfl) rfl rfl ?_)
        refine Ops_splitB 85 rfl (fun hg60_ => ?_) (fun hg60_ => ?_)
        ·
         replace h := h.1 hg60_
         refine Ops_step (R_move rfl) rfl rfl ?_
         refine Ops_call (C_func bd16 rfl) rfl rfl ?_
         refine (sealskinlaw06_records_ok (z0 := y53b_o1) (z1 := y53b_o2) (z2 := y53b_o0) hI.st (hg.up hI.le) ht53b_o2 ht53b_o0 hc53b_o0_1 hs53b_o0_1 hc53b_o0_2 hs53b_o0_2 hc53b_o0_3 hs53b_o0_3 ht53b_o1 hc53b_o1_1 hs53b_o1_1 h).mono ?_
         rintro _ w61_ ⟨A61_0, c61_0, r61_0, L61_, H61_, rfl, hI61_, ho61_0, h⟩
         refine Exists.elim (hI.call hI61_ (by simp)) fun L610_ h61_ => ?_
         have hz61_ := hI.size
         replace hI := h61_.1
         have u61_ := h61_.2.1
         have hl61_ := h61_.2.2
         clear h61_
         replace hs35_ := hs35_.up u61_.ll
         replace ht53b_o0 := ht53b_o0.up u61_ (by simp)
         replace hs53b_o0_1 := hs53b_o0_1.up u61_.hh
         replace hs53b_o0_2 := hs53b_o0_2.up u61_.hh
         replace hs53b_o0_3 := hs53b_o0_3.up u61_.hh
         replace ht53b_o1 := ht53b_o1.up u61_ (by simp)
         replace hs53b_o1_1 := hs53b_o1_1.up u61_.hh
         replace ht53b_o2 := ht53b_o2.up u61_.hh u61_ (by simp)
         replace ho61_0 := OwnS.back ho61_0 hz61_ hl61_ (Le.refl _)
         clear hI61_ u61_ hl61_
         refine ⟨_, rfl, ?_⟩
         refine Exists.elim (ho61_0.freeze hI) fun L62_ h62_ => Exists.elim h62_ fun H62_ h62_ => ?_
         replace hI := h62_.1
         have u62_ := h62_.2.1
         have hs62_ := h62_.2.2.1 (Le.refl _)
         have hc62_ := ho61_0.cap
         replace hs35_ := hs35_.up u62_.ll
         clear h62_ u62_ ho61_0
         refine Ops_step (R_move rfl) rfl rfl ?_
         refine Ops_call (C_func bd23 rfl) rfl rfl ?_
         refine (slices_Equal_sealskinref06_Record_sealskinref06_Record_ok (x0 := r61_0) (x1 := r34_0) hI.st (hg.up hI.le) hc62_ (hs62_.up hI.sub) hc35_ (hs35_.up hI.sub) h).mono ?_
         rintro _ w63_ ⟨r63_0, L63_, H63_, rfl, hI63_, h⟩
         refine Exists.elim (hI.call hI63_ (by simp)) fun L630_ h63_ => ?_
         have hz63_ := hI.size
         replace hI := h63_.1
         have u63_ := h63_.2.1
         have hl63_ := h63_.2.2
         clear h63_
         clear hI63_ u63_ hl63_
         refine ⟨_, rfl, ?_⟩
         refine Ops_step (R_pick_true rfl rfl) rfl rfl (Ops_step (R_move rfl) rfl rfl ?_)
         refine Ops_splitB 91 rfl (fun hg64_ => ?_) (fun hg64_ => ?_)
         ·
          replace h := h.1 hg64_
          refine Ops_call (C_func bd12 rfl) rfl rfl ?_
          refine (sealskinlaw06_awake_ok  hI.st (hg.up hI.le)  h).mono ?_
          rintro _ w65_ ⟨r65_0, L65_, H65_, rfl, hI65_, h⟩
          refine Exists.elim (hI.call hI65_ (by simp)) fun L650_ h65_ => ?_
          have hz65_ := hI.size
          replace hI := h65_.1
          have u65_ := h65_.2.1
          have hl65_ := h65_.2.2
          clear h65_
          clear hI65_ u65_ hl65_
          refine ⟨_, rfl, ?_⟩
          refine Ops_step (R_pick_true rfl rfl) rfl rfl (Ops_step (R_assign rfl) rfl rfl ?_)
          refine Ops_nil ?_
          refine then_n (k55 _ _ ?_)
          clear k55 K55
          refine W_keepB [6] fun B_ b_ => ?_
          simp only [e_, Nat.reduceAdd, Nat.reduceBEq] at b_
          subst b_
          refine W_ret ?_
          refine ⟨_, ⟨_, _, rfl, rfl, rfl⟩, ?_⟩
          exact ⟨r65_0, _, _, rfl, hI, h⟩
         ·
          replace h := h.2 hg64_
          refine Ops_pass rfl rfl (Ops_step (R_pick_false rfl rfl) rfl rfl (Ops_step (R_assign rfl) rfl rfl ?_))
          refine Ops_nil ?_
          refine then_n (k55 _ _ ?_)
          clear k55 K55
          refine W_keepB [6] fun B_ b_ => ?_
          simp only [e_, Nat.reduceAdd, Nat.reduceBEq] at b_
          subst b_
          refine W_ret ?_
          refine ⟨_, ⟨_, _, rfl, rfl, rfl⟩, ?_⟩
          exact ⟨false, _, _, rfl, hI, h⟩
        ·
         replace h := h.2 hg60_
         refine Ops_pass rfl rfl (Ops_pass rfl rfl (Ops_pass rfl rfl (Ops_pass rfl rfl (Ops_step (R_pick_false rfl rfl) rfl rfl ?_))))
         refine Ops_step (R_move rfl) rfl rfl (Ops_pass rfl rfl (Ops_step (R_pick_false rfl rfl) rfl rfl (Ops_step (R_assign rfl) rfl rfl ?_)))
         refine Ops_nil ?_
         refine then_n (k55 _ _ ?_)
         clear k55 K55
         refine W_keepB [6] fun B_ b_ => ?_
         simp only [e_, Nat.reduceAdd, Nat.reduceBEq] at b_
         subst b_
         refine W_ret ?_
         refine ⟨_, ⟨_, _, rfl, rfl, rfl⟩, ?_⟩
         exact ⟨false, _, _, rfl, hI, h⟩
       ·
        replace h := h.2 hg56_
        refine Ops_pass rfl rfl (Ops_pass rfl rfl (Ops_pass rfl rfl (Ops_pass rfl rfl (Ops_step (R_pick_false rfl rfl) rfl rfl ?_))))
        refine Ops_step (R_move rfl) rfl rfl (Ops_pass rfl rfl (Ops_pass rfl rfl (Ops_pass rfl rfl (Ops_pass rfl rfl ?_))))
        refine Ops_step (R_pick_false rfl rfl) rfl rfl (Ops_step (R_move rfl) rfl rfl (Ops_pass rfl rfl (Ops_step (R_pick_false rfl rfl) rfl rfl (Ops_step (R_assign rfl) rfl rfl ?_))))
        refine Ops_nil ?_
        refine then_n (k55 _ _ ?_)
        clear k55 K55
        refine W_keepB [6] fun B_ b_ => ?_
        simp only [e_, Nat.reduceAdd, Nat.reduceBEq] at b_
        subst b_
        refine W_ret ?_
        refine ⟨_, ⟨_, _, rfl, rfl, rfl⟩, ?_⟩
        exact ⟨false, _, _, rfl, hI, h⟩

end Go.Proofs.Ytkmljjhjojolcaa

