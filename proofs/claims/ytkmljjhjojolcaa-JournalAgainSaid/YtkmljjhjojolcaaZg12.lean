/- What is shown of the program on the way to the law. -/
import Derived.Test.YtkmljjhjojolcaaZg3
import Derived.Test.YtkmljjhjojolcaaZg4
import Derived.Test.YtkmljjhjojolcaaZg5
import Derived.Test.YtkmljjhjojolcaaZg7
import Derived.Test.YtkmljjhjojolcaaZg9
import Derived.Test.YtkmljjhjojolcaaZg10
import Derived.Test.YtkmljjhjojolcaaZg11
import Derived.Test.YtkmljjhjojolcaaProg
set_option linter.unusedVariables false
set_option linter.unusedSimpArgs false
set_option maxHeartbeats 4000000
namespace Go.Proofs.Ytkmljjhjojolcaa
open Go Go.Sx Go.Lx
namespace TJmAgain
theorem hm : Try.prog.follows .mixedOrders = true := by kernel_rfl
theorem ag29 : aggB Try.prog 29 = some false := by kernel_rfl
theorem ag3 : aggB Try.prog 3 = some false := by kernel_rfl
theorem ag31 : aggB Try.prog 31 = some true := by kernel_rfl
theorem bd11 : bodied Try.prog 11 = true := by kernel_rfl
theorem bd12 : bodied Try.prog 12 = true := by kernel_rfl
theorem bd15 : bodied Try.prog 15 = true := by kernel_rfl
theorem bd16 : bodied Try.prog 16 = true := by kernel_rfl
theorem bd20 : bodied Try.prog 20 = true := by kernel_rfl
theorem bd23 : bodied Try.prog 23 = true := by kernel_rfl
theorem bd24 : bodied Try.prog 24 = true := by kernel_rfl
theorem bd26 : bodied Try.prog 26 = true := by kernel_rfl
theorem bd30 : bodied Try.prog 30 = true := by kernel_rfl
theorem el67 : Elem Try.prog 67 29 1 24 := Elem.of (by kernel_rfl)
theorem fo31_0 : offB Try.prog 31 0 = some 0 := by kernel_rfl
theorem fo31_1 : offB Try.prog 31 1 = some 1 := by kernel_rfl
theorem fo31_3 : offB Try.prog 31 3 = some 3 := by kernel_rfl
theorem sz29 : sz Try.prog 29 = some 1 := by kernel_rfl
theorem sz31 : sz Try.prog 31 = some 4 := by kernel_rfl
theorem zr29 : zr Try.prog 29 = some ([.slice none 0 0]) := by kernel_rfl
theorem zr31 : zr Try.prog 31 = some ([.int .i64 0] ++ [.int .i64 0] ++ [.int .i64 0] ++ [.slice none 0 0]) := by kernel_rfl
end TJmAgain
open TJmAgain
theorem sealskinlaw06_JournalAgain_ok {G : Gh} {w : World} (hS : St G w) (hg : GL G) {A0 : Option Addr} {c0 : Nat} {x0 : List UInt8} (hc0 : x0.length ≤ c0) (hs0 : Sl G A0 x0) {A1 : Option Addr} {c1 : Nat} {x1 : List UInt8} (hc1 : x1.length ≤ c1) (hs1 : Sl G A1 x1) {A2 : Option Addr} {c2 : Nat} {x2 : List UInt8} (hc2 : x2.length ≤ c2) (hs2 : Sl G A2 x2) {A3 : Option Addr} {c3 : Nat} {x3 : List sealskinlaw06_Do} (hc3 : x3.length ≤ c3) (hs3 : Sl G A3 x3) {Q : Bool → Prop} (h : sealskinlaw06_JournalAgain x0 x1 x2 x3 Q) : Calls Try.prog 7 #[.slice A0 x0.length c0, .slice A1 x1.length c1, .slice A2 x2.length c2, .slice A3 x3.length c3] w fun e w2 => ∃ (r0 : Bool) (L H : Gh), e = .returned (.bool r0) ∧ Inv [] G w L H w2 ∧ Q r0 := by
 unfold sealskinlaw06_JournalAgain at h
 have hI := Inv.start (M := []) hS
 refine calls_W 123 Try.func7 rfl Try.ntmps7 rfl [.tmp 8] rfl ?_
 refine W_seq_k fun K1 k1 => ?_
 refine W_region [8] rfl (Ops_step (R_assign rfl) rfl rfl ?_)
 refine Ops_nil ?_
 refine then_n (k1 _ _ ?_)
 clear k1 K1
 refine W_seq_k fun K2 k2 => ?_
 refine ex_ h fun J3_ hr3_ h => ?_
 refine W_seq_join [0, 1, 2, 3] [35] (fun vals_ w2 => ∃ (x35_3 : Bool) (L H : Gh), vals_ = [.bool x35_3] ∧ J3_ x35_3 ∧ Inv [] G w L H w2 ∧ Le Gh.no L ∧ Le G H ∧ True) (fun B_ b_ => ?_) (fun B_ b_ => ?_)
 ·
  simp only [e_, Nat.reduceAdd, Nat.reduceBEq] at b_
  subst b_
  clear hr3_
  have hll3_ := Le.refl Gh.no
  have hhh3_ := Le.refl G
  refine W_region [18, 19, 20, 21, 22, 23, 24, 25, 26, 27, 28, 29, 30, 31, 32, 33, 34, 35] rfl (Ops_step (R_move rfl) rfl rfl (Ops_step (R_len Try.underlying29 rfl rfl) rfl rfl (Ops_step (R_gtr rfl rfl) rfl rfl (Ops_step (R_move rfl) rfl rfl ?_))))
  refine Ops_split 21 rfl (fun hg4_ => ?_) (fun hg4_ => ?_)
  ·
   replace h := h.1 hg4_
   refine Ops_pass rfl rfl (Ops_pass rfl rfl (Ops_pass rfl rfl (Ops_step (R_pick_true rfl rfl) rfl rfl (Ops_step (R_move rfl) rfl rfl ?_))))
   refine Ops_pass rfl rfl (Ops_pass rfl rfl (Ops_pass rfl rfl (Ops_step (R_pick_true rfl rfl) rfl rfl (Ops_step (R_move rfl) rfl rfl ?_))))
   refine Ops_pass rfl rfl (Ops_pass rfl rfl (Ops_pass rfl rfl (Ops_step (R_pick_true rfl rfl) rfl rfl ?_)))
   refine Ops_nil ?_
   refine then_n ?_
   exact ⟨_, rfl, ⟨true, _, _, rfl, h, hI, hll3_, hhh3_, trivial⟩, ⟨rfl, rfl, rfl, rfl, trivial⟩⟩
  ·
   replace h := h.2 hg4_
   refine Ops_step (R_move rfl) rfl rfl (Ops_step (R_len Try.underlying29 rfl rfl) rfl rfl (Ops_step (R_gtr rfl rfl) rfl rfl (Ops_step (R_pick_false rfl rfl) rfl rfl (Ops_step (R_move rfl) rfl rfl ?_))))
   refine Ops_split 26 rfl (fun hg5_ => ?_) (fun hg5_ => ?_)
   ·
    replace h := h.1 hg5_
    refine Ops_pass rfl rfl (Ops_pass rfl rfl (Ops_pass rfl rfl (Ops_step (R_pick_true rfl rfl) rfl rfl (Ops_step (R_move rfl) rfl rfl ?_))))
    refine Ops_pass rfl rfl (Ops_pass rfl rfl (Ops_pass rfl rfl (Ops_step (R_pick_true rfl rfl) rfl rfl ?_)))
    refine Ops_nil ?_
    refine then_n ?_
    exact ⟨_, rfl, ⟨true, _, _, rfl, h, hI, hll3_, hhh3_, trivial⟩, ⟨rfl, rfl, rfl, rfl, trivial⟩⟩
   ·
    replace h := h.2 hg5_
    refine Ops_step (R_move rfl) rfl rfl (Ops_step (R_len Try.underlying29 rfl rfl) rfl rfl (Ops_step (R_gtr rfl rfl) rfl rfl (Ops_step (R_pick_false rfl rfl) rfl rfl (Ops_step (R_move rfl) rfl rfl ?_))))
    refine Ops_split 31 rfl (fun hg6_ => ?_) (fun hg6_ => ?_)
    ·
     replace h := h.1 hg6_
     refine Ops_pass rfl rfl (Ops_pass rfl rfl (Ops_pass rfl rfl (Ops_step (R_pick_true rfl rfl) rfl rfl ?_)))
     refine Ops_nil ?_
     refine then_n ?_
     exact ⟨_, rfl, ⟨true, _, _, rfl, h, hI, hll3_, hhh3_, trivial⟩, ⟨rfl, rfl, rfl, rfl, trivial⟩⟩
    ·
     replace h := h.2 hg6_
     refine Ops_step (R_move rfl) rfl rfl ?_
     refine Ops_call (C_func bd11 rfl) rfl rfl ?_
     refine (sealskinlaw06_short_ok (x0 := x3) hI.st (hg.up hI.le) hc3 hs3 h).mono ?_
     rintro _ w7_ ⟨r7_0, L7_, H7_, rfl, hI7_, h⟩
     refine Exists.elim (hI.call hI7_ (by simp)) fun L70_ h7_ => ?_
     have hz7_ := hI.size
     replace hI := h7_.1
     have u7_ := h7_.2.1
     have hl7_ := h7_.2.2
     clear h7_
     replace hs0 := hs0.up u7_.hh
     replace hs1 := hs1.up u7_.hh
     replace hs2 := hs2.up u7_.hh
     replace hs3 := hs3.up u7_.hh
     replace hll3_ := hll3_.trans u7_.ll
     replace hhh3_ := hhh3_.trans u7_.hh
     clear hI7_ u7_ hl7_
     refine ⟨_, rfl, ?_⟩
     refine Ops_step (R_not rfl) rfl rfl (Ops_step (R_pick_false rfl rfl) rfl rfl ?_)
     refine Ops_nil ?_
     refine then_n ?_
     exact ⟨_, rfl, ⟨(!r7_0), _, _, rfl, h, hI, hll3_, hhh3_, trivial⟩, ⟨rfl, rfl, rfl, rfl, trivial⟩⟩
 ·
  simp only [e_, Nat.reduceAdd, Nat.reduceBEq] at b_
  subst b_
  clear h
  rintro _ w3_ ⟨x35_3, L3_, H3_, rfl, hJ3_, hI3_, hll3_, hhh3_, -⟩
  replace hI := hI3_
  clear hI3_
  have h := hr3_ x35_3 hJ3_
  clear hr3_ hJ3_
  replace hs0 := hs0.up hhh3_
  replace hs1 := hs1.up hhh3_
  replace hs2 := hs2.up hhh3_
  replace hs3 := hs3.up hhh3_
  refine W_cond rfl (fun hc8_ => ?_) (fun hc8_ => ?_)
  ·
   replace h := h.1 hc8_
   refine W_seq_k fun K9 k9 => ?_
   refine W_region [36, 8] rfl ?_
   refine Ops_call (C_func bd12 rfl) rfl rfl ?_
   refine (sealskinlaw06_awake_ok  hI.st (hg.up hI.le)  h).mono ?_
   rintro _ w10_ ⟨r10_0, L10_, H10_, rfl, hI10_, h⟩
   refine Exists.elim (hI.call hI10_ (by simp)) fun L100_ h10_ => ?_
   have hz10_ := hI.size
   replace hI := h10_.1
   have u10_ := h10_.2.1
   have hl10_ := h10_.2.2
   clear h10_
   clear hI10_ u10_ hl10_
   refine ⟨_, rfl, ?_⟩
   refine Ops_step (R_assign rfl) rfl rfl ?_
   refine Ops_nil ?_
   refine then_n (k9 _ _ ?_)
   clear k9 K9
   refine W_keepB [8] fun B_ b_ => ?_
   simp only [e_, Nat.reduceAdd, Nat.reduceBEq] at b_
   subst b_
   refine W_ret ?_
   refine then_ret ?_
   clear k2 K2
   refine ⟨_, ⟨_, _, rfl, rfl, rfl⟩, ?_⟩
   exact ⟨r10_0, _, _, rfl, hI, h⟩
  ·
   replace h := h.2 hc8_
   refine W_skip ?_
   refine then_n (k2 _ _ ?_)
   clear k2 K2
   refine W_seq_k fun K12 k12 => ?_
   refine W_region [38, 37, 39, 40, 9, 10] rfl ?_
   refine Ops_call (C_func bd24 rfl) rfl rfl ?_
   refine (disk_New_ok (x0 := 8388608) hI.st (hg.up hI.le)  h).mono ?_
   rintro _ w13_ (⟨r13a_1, L13a_, H13a_, rfl, hI13a_, h⟩ | ⟨r13b_1, o0_13b, y13b_o0, A13b_o0_1, c13b_o0_1, A13b_o0_2, c13b_o0_2, A13b_o0_3, c13b_o0_3, L13b_, H13b_, rfl, hI13b_, hge_o0_13b, ht13b_o0, hc13b_o0_1, hs13b_o0_1, hc13b_o0_2, hs13b_o0_2, hc13b_o0_3, hs13b_o0_3, h⟩)
   ·
    exact h.elim
   ·
    have hge0_o0_13b := hge_o0_13b
    replace hge_o0_13b := Nat.le_trans hI.size hge_o0_13b
    refine Exists.elim (hI.call hI13b_ (by simp)) fun L13b0_ h13b_ => ?_
    have hz13b_ := hI.size
    replace hI := h13b_.1
    have u13b_ := h13b_.2.1
    have hl13b_ := h13b_.2.2
    clear h13b_
    replace hs0 := hs0.up u13b_.hh
    replace hs1 := hs1.up u13b_.hh
    replace hs2 := hs2.up u13b_.hh
    replace hs3 := hs3.up u13b_.hh
    clear hI13b_ u13b_ hl13b_
    refine ⟨_, rfl, ?_⟩
    refine Ops_step (R_move rfl) rfl rfl ?_
    refine Ops_step (R_extract (v := .pointer (some ⟨o0_13b, 0, none⟩)) rfl rfl) rfl rfl ?_
    refine Ops_step (R_extract (v := vi r13b_1) rfl rfl) rfl rfl ?_
    refine Ops_step (R_assign rfl) rfl rfl (Ops_step (R_assign rfl) rfl rfl ?_)
    refine Ops_nil ?_
    refine then_n (k12 _ _ ?_)
    clear k12 K12
    refine W_keepB [0, 1, 2, 3, 9] fun B_ b_ => ?_
    simp only [e_, Nat.reduceAdd, Nat.reduceBEq] at b_
    subst b_
    refine ex_ h fun J15_ hr15_ h => ?_
    refine W_seq_join [3, 9] [] (fun vals_ w2 => ∃ (yo0_13b_15 : disk_Disk) (Ao0_13b_15_1 : Option Addr) (co0_13b_15_1 : Nat) (Ao0_13b_15_2 : Option Addr) (co0_13b_15_2 : Nat) (Ao0_13b_15_3 : Option Addr) (co0_13b_15_3 : Nat) (L H : Gh), vals_ = [] ∧ J15_ yo0_13b_15 ∧ Inv [] G w L H w2 ∧ Le L13b0_ L ∧ Le H13b_ H ∧ Tok H w2 o0_13b 53 ([.slice Ao0_13b_15_1 yo0_13b_15.files_.e0_.length co0_13b_15_1, .slice Ao0_13b_15_2 yo0_13b_15.files_.e1_.length co0_13b_15_2, .slice Ao0_13b_15_3 yo0_13b_15.files_.e2_.length co0_13b_15_3, vi yo0_13b_15.room_, .bool yo0_13b_15.off_, .bool yo0_13b_15.armed_, vi yo0_13b_15.left_]) ∧ yo0_13b_15.files_.e0_.length ≤ co0_13b_15_1 ∧ Sl H Ao0_13b_15_1 yo0_13b_15.files_.e0_ ∧ yo0_13b_15.files_.e1_.length ≤ co0_13b_15_2 ∧ Sl H Ao0_13b_15_2 yo0_13b_15.files_.e1_ ∧ yo0_13b_15.files_.e2_.length ≤ co0_13b_15_3 ∧ Sl H Ao0_13b_15_3 yo0_13b_15.files_.e2_ ∧ True) (fun B_ b_ => ?_) (fun B_ b_ => ?_)
    ·
     simp only [e_, Nat.reduceAdd, Nat.reduceBEq] at b_
     subst b_
     clear hr15_
     have hll15_ := Le.refl L13b0_
     have hhh15_ := Le.refl H13b_
     refine W_seq_k fun K16 k16 => ?_
     refine W_region [41, 42, 43, 44, 45, 46] rfl (Ops_step (R_move rfl) rfl rfl (Ops_step (R_move rfl) rfl rfl (Ops_step (R_move rfl) rfl rfl ?_)))
     refine Ops_to (R_buildSlice el67 zr29 (by decide) (by decide) rfl rfl) rfl rfl ?_
     rintro _ w17_ ⟨b17_, rfl, hb17_, hB17_, hF17_⟩
     have ho17_ : OwnS w.heap.size 29 H13b_ H13b_ _ (some ⟨b17_, 0, none⟩) 3 ([x0, x1, x2] : List (List UInt8)) := OwnS.ofBlk (css := [[.slice A0 x0.length c0], [.slice A1 x1.length c1], [.slice A2 x2.length c2]]) hI.st hb17_ hB17_ (.cons ⟨A0, c0, rfl, hc0, hs0⟩ (.cons ⟨A1, c1, rfl, hc1, hs1⟩ (.cons ⟨A2, c2, rfl, hc2, hs2⟩ .nil))) rfl (by have := hI.size; omega) (by show 3 ≤ maxLen; decide)
     replace hI := hI.fr0 hF17_
     replace ht13b_o0 := ht13b_o0.fr0 hF17_
     clear hF17_ hB17_
     refine Ops_step (R_len Try.underlying67 rfl rfl) rfl rfl (Ops_step (R_move rfl) rfl rfl ?_)
     refine Ops_nil ?_
     refine then_n (k16 _ _ ?_)
     clear k16 K16
     refine W_keepB [3, 9, 44, 45, 46] fun B_ b_ => ?_
     simp only [e_, Nat.reduceAdd, Nat.reduceBEq] at b_
     subst b_
     refine W_block ?_
     refine Exists.elim h fun I19_ h => Exists.elim h fun n19_ h => ?_
     have h0_ := h.1
     have hs19_ := h.2
     clear h
     refine Exists.elim (ho17_.freeze hI) fun L20_ h20_ => Exists.elim h20_ fun H20_ h20_ => ?_
     replace hI := h20_.1
     have u20_ := h20_.2.1
     have hs20_ := h20_.2.2.2 (Le.refl _)
     have hc20_ := ho17_.cap
     replace hs3 := hs3.up u20_.hh
     replace ht13b_o0 := ht13b_o0.up u20_ (ht13b_o0.sep ho17_ (by decide))
     replace hs13b_o0_1 := hs13b_o0_1.up u20_.hh
     replace hs13b_o0_2 := hs13b_o0_2.up u20_.hh
     replace hs13b_o0_3 := hs13b_o0_3.up u20_.hh
     replace hll15_ := hll15_.trans u20_.ll
     replace hhh15_ := hhh15_.trans u20_.hh
     clear h20_ u20_ ho17_
     refine W_loopB [3, 9, 45] [44, 46] (fun m vals_ w2 => ∃ (x44_19 : List (List UInt8)) (A44_19 : Option Addr) (c44_19 : Nat) (x46_19 : Int) (yo0_13b_19 : disk_Disk) (Ao0_13b_19_1 : Option Addr) (co0_13b_19_1 : Nat) (Ao0_13b_19_2 : Option Addr) (co0_13b_19_2 : Nat) (Ao0_13b_19_3 : Option Addr) (co0_13b_19_3 : Nat) (L H : Gh), vals_ = [.slice A44_19 x44_19.length c44_19, vi x46_19] ∧ I19_ m x44_19 x46_19 yo0_13b_19 ∧ Inv [] G w L H w2 ∧ Le L20_ L ∧ Le H20_ H ∧ x44_19.length ≤ c44_19 ∧ Sl H A44_19 x44_19 ∧ Tok H w2 o0_13b 53 ([.slice Ao0_13b_19_1 yo0_13b_19.files_.e0_.length co0_13b_19_1, .slice Ao0_13b_19_2 yo0_13b_19.files_.e1_.length co0_13b_19_2, .slice Ao0_13b_19_3 yo0_13b_19.files_.e2_.length co0_13b_19_3, vi yo0_13b_19.room_, .bool yo0_13b_19.off_, .bool yo0_13b_19.armed_, vi yo0_13b_19.left_]) ∧ yo0_13b_19.files_.e0_.length ≤ co0_13b_19_1 ∧ Sl H Ao0_13b_19_1 yo0_13b_19.files_.e0_ ∧ yo0_13b_19.files_.e1_.length ≤ co0_13b_19_2 ∧ Sl H Ao0_13b_19_2 yo0_13b_19.files_.e1_ ∧ yo0_13b_19.files_.e2_.length ≤ co0_13b_19_3 ∧ Sl H Ao0_13b_19_3 yo0_13b_19.files_.e2_ ∧ True) n19_ _ rfl ⟨([x0, x1, x2] : List (List UInt8)), (some ⟨b17_, 0, none⟩), 3, 0, y13b_o0, A13b_o0_1, c13b_o0_1, A13b_o0_2, c13b_o0_2, A13b_o0_3, c13b_o0_3, _, _, rfl, h0_, hI, Le.refl _, Le.refl _, hc20_, hs20_, ht13b_o0, hc13b_o0_1, hs13b_o0_1, hc13b_o0_2, hs13b_o0_2, hc13b_o0_3, hs13b_o0_3, trivial⟩ fun B_ b_ => ?_
     clear h0_
     simp only [e_, Nat.reduceAdd, Nat.reduceBEq] at b_
     subst b_
     rintro m19_ _ w19_ ⟨x44_19, A44_19, c44_19, x46_19, yo0_13b_19, Ao0_13b_19_1, co0_13b_19_1, Ao0_13b_19_2, co0_13b_19_2, Ao0_13b_19_3, co0_13b_19_3, L19_, H19_, rfl, hJ19_, hI19_, hll19_, hhh19_, hc44_19, hs44_19, hto0_13b_19, hco0_13b_19_1, hso0_13b_19_1, hco0_13b_19_2, hso0_13b_19_2, hco0_13b_19_3, hso0_13b_19_3, -⟩
     replace hI := hI19_
     clear hI19_
     have h := hs19_ m19_ x44_19 x46_19 yo0_13b_19 hJ19_
     clear hs19_ hJ19_
     replace hs3 := hs3.up hhh19_
     replace hll15_ := hll15_.trans hll19_
     replace hhh15_ := hhh15_.trans hhh19_
     refine W_seq_k fun K21 k21 => ?_
     refine W_region [47] rfl (Ops_step (R_lss rfl rfl) rfl rfl ?_)
     refine Ops_nil ?_
     refine then_n (k21 _ _ ?_)
     clear k21 K21
     refine W_seq_k fun K22 k22 => ?_
     refine W_if rfl (fun hc23_ => ?_) (fun hc23_ => ?_)
     ·
      replace h := h.1 hc23_
      refine W_skip ?_
      refine then_n (k22 _ _ ?_)
      clear k22 K22
      refine W_seq_k fun K24 k24 => ?_
      refine W_block ?_
      refine W_seq_k fun K25 k25 => ?_
      refine W_region [48, 49, 50, 11, 12] rfl (Ops_step (R_move rfl) rfl rfl ?_)
      refine ex_ h fun x26_ hx26_ h => ?_
      have ha26_ := (hs44_19.atL hx26_).1
      refine Exists.elim (hs44_19.atL hx26_).2 fun A26_ hA26_ => Exists.elim hA26_ fun c26_ hA26_ => ?_
      have hc26_ := hA26_.1
      have hs26_ := hA26_.2.1
      have hg26_ := hA26_.2.2
      clear hA26_
      refine Ops_step (R_indexSl Try.underlying67 sz29 rfl rfl hx26_.1 hx26_.lt ha26_) rfl rfl (Ops_step (R_load ag29 rfl (hI.st _ _ hg26_)) rfl rfl (Ops_step (R_assign rfl) rfl rfl (Ops_step (R_assign rfl) rfl rfl ?_)))
      refine Ops_nil ?_
      refine then_n (k25 _ _ ?_)
      clear k25 K25
      refine W_region [51, 52, 53, 54] rfl (Ops_step (R_move rfl) rfl rfl (Ops_step (R_move rfl) rfl rfl (Ops_step (R_move rfl) rfl rfl ?_)))
      refine Ops_call (C_func bd26 rfl) rfl rfl ?_
      refine (disk_Disk_Append_ok (x1 := x46_19) (x2 := x26_) (z0 := yo0_13b_19) hI.st (hg.up hI.le) hto0_13b_19 hco0_13b_19_1 hso0_13b_19_1 hco0_13b_19_2 hso0_13b_19_2 hco0_13b_19_3 hso0_13b_19_3 hc26_ hs26_ h).mono ?_
      rintro _ w27_ ⟨r27_0, y27_o0, A27_o0_1, c27_o0_1, A27_o0_2, c27_o0_2, A27_o0_3, c27_o0_3, L27_, H27_, rfl, hI27_, ht27_o0, hc27_o0_1, hs27_o0_1, hc27_o0_2, hs27_o0_2, hc27_o0_3, hs27_o0_3, h⟩
      refine Exists.elim (hI.call hI27_ (new1 hge_o0_13b)) fun L270_ h27_ => ?_
      have hz27_ := hI.size
      replace hI := h27_.1
      have u27_ := h27_.2.1
      have hl27_ := h27_.2.2
      clear h27_
      replace hs3 := hs3.up u27_.hh
      replace hll15_ := hll15_.trans u27_.ll
      replace hhh15_ := hhh15_.trans u27_.hh
      replace hso0_13b_19_1 := hso0_13b_19_1.up u27_.hh
      replace hso0_13b_19_2 := hso0_13b_19_2.up u27_.hh
      replace hso0_13b_19_3 := hso0_13b_19_3.up u27_.hh
      replace hs44_19 := hs44_19.up u27_.hh
      replace hll19_ := hll19_.trans u27_.ll
      replace hhh19_ := hhh19_.trans u27_.hh
      clear hto0_13b_19
      clear hI27_ u27_ hl27_
      refine ⟨_, rfl, ?_⟩
      refine Ops_nil ?_
      refine block_n ?_
      refine then_n (k24 _ _ ?_)
      clear k24 K24
      refine W_keepB [3, 9, 44, 45, 46] fun B_ b_ => ?_
      simp only [e_, Nat.reduceAdd, Nat.reduceBEq] at b_
      subst b_
      refine W_region [55, 46] rfl ?_
      have hk29_ := h.1
      replace h := h.2
      refine Ops_step (R_add rfl rfl (wI hk29_.1 hk29_.2)) rfl rfl (Ops_step (R_move rfl) rfl rfl ?_)
      refine Ops_nil ?_
      refine then_n ?_
      exact h.elim fun m_ h => ⟨m_, _, h.1, rfl, ⟨x44_19, A44_19, c44_19, (x46_19 + 1), y27_o0, A27_o0_1, c27_o0_1, A27_o0_2, c27_o0_2, A27_o0_3, c27_o0_3, _, _, rfl, h.2, hI, hll19_, hhh19_, hc44_19, hs44_19, ht27_o0, hc27_o0_1, hs27_o0_1, hc27_o0_2, hs27_o0_2, hc27_o0_3, hs27_o0_3, trivial⟩, ⟨rfl, rfl, rfl, trivial⟩⟩
     ·
      replace h := h.2 hc23_
      refine W_exit ?_
      refine then_exit ?_
      clear k22 K22
      refine then_exit ?_
      refine block_exit ?_
      refine then_n ?_
      exact ⟨_, rfl, ⟨yo0_13b_19, Ao0_13b_19_1, co0_13b_19_1, Ao0_13b_19_2, co0_13b_19_2, Ao0_13b_19_3, co0_13b_19_3, _, _, rfl, h, hI, hll15_, hhh15_, hto0_13b_19, hco0_13b_19_1, hso0_13b_19_1, hco0_13b_19_2, hso0_13b_19_2, hco0_13b_19_3, hso0_13b_19_3, trivial⟩, ⟨rfl, rfl, trivial⟩⟩
    ·
     simp only [e_, Nat.reduceAdd, Nat.reduceBEq] at b_
     subst b_
     clear h
     rintro _ w15_ ⟨yo0_13b_15, Ao0_13b_15_1, co0_13b_15_1, Ao0_13b_15_2, co0_13b_15_2, Ao0_13b_15_3, co0_13b_15_3, L15_, H15_, rfl, hJ15_, hI15_, hll15_, hhh15_, hto0_13b_15, hco0_13b_15_1, hso0_13b_15_1, hco0_13b_15_2, hso0_13b_15_2, hco0_13b_15_3, hso0_13b_15_3, -⟩
     replace hI := hI15_
     clear hI15_
     have h := hr15_ yo0_13b_15 hJ15_
     clear hr15_ hJ15_
     replace hs3 := hs3.up hhh15_
     refine W_seq_k fun K30 k30 => ?_
     refine W_region [57, 58, 56, 59, 60, 13, 14] rfl (Ops_step (R_move rfl) rfl rfl ?_)
     refine Ops_call (C_func bd20 rfl) rfl rfl ?_
     refine (journal_Open_ok (z0 := yo0_13b_15) hI.st (hg.up hI.le) hto0_13b_15 hco0_13b_15_1 hso0_13b_15_1 hco0_13b_15_2 hso0_13b_15_2 hco0_13b_15_3 hso0_13b_15_3 h).mono ?_
     rintro _ w31_ (⟨r31a_1, y31a_o0, A31a_o0_1, c31a_o0_1, A31a_o0_2, c31a_o0_2, A31a_o0_3, c31a_o0_3, L31a_, H31a_, rfl, hI31a_, ht31a_o0, hc31a_o0_1, hs31a_o0_1, hc31a_o0_2, hs31a_o0_2, hc31a_o0_3, hs31a_o0_3, h⟩ | ⟨r31b_1, y31b_o0, A31b_o0_1, c31b_o0_1, A31b_o0_2, c31b_o0_2, A31b_o0_3, c31b_o0_3, o1_31b, y31b_o1, A31b_o1_1, c31b_o1_1, o2_31b, y31b_o2, L31b_, H31b_, rfl, hI31b_, ht31b_o0, hc31b_o0_1, hs31b_o0_1, hc31b_o0_2, hs31b_o0_2, hc31b_o0_3, hs31b_o0_3, hge_o1_31b, ht31b_o1, hc31b_o1_1, hs31b_o1_1, hge_o2_31b, ht31b_o2, h⟩)
     ·
      refine Exists.elim (hI.call hI31a_ (new1 hge_o0_13b)) fun L31a0_ h31a_ => ?_
      have hz31a_ := hI.size
      replace hI := h31a_.1
      have u31a_ := h31a_.2.1
      have hl31a_ := h31a_.2.2
      clear h31a_
      replace hs3 := hs3.up u31a_.hh
      replace hso0_13b_15_1 := hso0_13b_15_1.up u31a_.hh
      replace hso0_13b_15_2 := hso0_13b_15_2.up u31a_.hh
      replace hso0_13b_15_3 := hso0_13b_15_3.up u31a_.hh
      clear hto0_13b_15
      clear hI31a_ u31a_ hl31a_
      refine ⟨_, rfl, ?_⟩
      refine Ops_step (R_move rfl) rfl rfl ?_
      refine Ops_step (R_extract (v := .pointer none) rfl rfl) rfl rfl ?_
      refine Ops_step (R_extract (v := vi r31a_1) rfl rfl) rfl rfl ?_
      refine Ops_step (R_assign rfl) rfl rfl (Ops_step (R_assign rfl) rfl rfl ?_)
      refine Ops_nil ?_
      refine then_n (k30 _ _ ?_)
      clear k30 K30
      refine W_seq_k fun K32 k32 => ?_
      refine W_seq_k fun K33 k33 => ?_
      refine W_region [61, 62] rfl (Ops_step (R_move rfl) rfl rfl (Ops_step (R_neq rfl rfl) rfl rfl ?_))
      refine Ops_nil ?_
      refine then_n (k33 _ _ ?_)
      clear k33 K33
      refine W_keepB [3, 9, 13, 14, 62] fun B_ b_ => ?_
      simp only [e_, Nat.reduceAdd, Nat.reduceBEq] at b_
      subst b_
      refine W_if rfl (fun hc35_ => ?_) (fun hc35_ => ?_)
      ·
       replace h := h.1 hc35_
       refine W_seq_k fun K36 k36 => ?_
       refine W_region [63, 64, 65, 66, 67, 68, 69, 70, 71, 8] rfl (Ops_step (R_move rfl) rfl rfl (Ops_step (R_eql rfl rfl) rfl rfl (Ops_step (R_move rfl) rfl rfl ?_)))
       refine Ops_split 65 rfl (fun hg37_ => ?_) (fun hg37_ => ?_)
       ·
        replace h := h.1 hg37_
        refine Ops_step (R_move rfl) rfl rfl (Ops_step (R_ptrNil Try.underlying26 rfl rfl) rfl rfl (Ops_step (R_pick_true rfl rfl) rfl rfl (Ops_step (R_move rfl) rfl rfl ?_)))
        refine Ops_call (C_func bd12 rfl) rfl rfl ?_
        refine (sealskinlaw06_awake_ok  hI.st (hg.up hI.le)  h).mono ?_
        rintro _ w38_ ⟨r38_0, L38_, H38_, rfl, hI38_, h⟩
        refine Exists.elim (hI.call hI38_ (by simp)) fun L380_ h38_ => ?_
        have hz38_ := hI.size
        replace hI := h38_.1
        have u38_ := h38_.2.1
        have hl38_ := h38_.2.2
        clear h38_
        clear hI38_ u38_ hl38_
        refine ⟨_, rfl, ?_⟩
        refine Ops_step (R_pick_true rfl rfl) rfl rfl (Ops_step (R_assign rfl) rfl rfl ?_)
        refine Ops_nil ?_
        refine then_n (k36 _ _ ?_)
        clear k36 K36
        refine W_keepB [8] fun B_ b_ => ?_
        simp only [e_, Nat.reduceAdd, Nat.reduceBEq] at b_
        subst b_
        refine W_ret ?_
        refine then_ret ?_
        clear k32 K32
        refine ⟨_, ⟨_, _, rfl, rfl, rfl⟩, ?_⟩
        exact ⟨r38_0, _, _, rfl, hI, h⟩
       ·
        replace h := h.2 hg37_
        refine Ops_pass rfl rfl (Ops_pass rfl rfl (Ops_step (R_pick_false rfl rfl) rfl rfl (Ops_step (R_move rfl) rfl rfl (Ops_pass rfl rfl ?_))))
        refine Ops_step (R_pick_false rfl rfl) rfl rfl (Ops_step (R_assign rfl) rfl rfl ?_)
        refine Ops_nil ?_
        refine then_n (k36 _ _ ?_)
        clear k36 K36
        refine W_keepB [8] fun B_ b_ => ?_
        simp only [e_, Nat.reduceAdd, Nat.reduceBEq] at b_
        subst b_
        refine W_ret ?_
        refine then_ret ?_
        clear k32 K32
        refine ⟨_, ⟨_, _, rfl, rfl, rfl⟩, ?_⟩
        exact ⟨false, _, _, rfl, hI, h⟩
      ·
       replace h := h.2 hc35_
       refine W_skip ?_
       refine then_n (k32 _ _ ?_)
       clear k32 K32
       refine W_seq_k fun K41 k41 => ?_
       refine W_region [73, 74, 75, 72, 76, 77, 15, 14] rfl (Ops_step (R_move rfl) rfl rfl ?_)
       refine Ops_call (C_func bd30 rfl) rfl rfl ?_
       refine (disk_Disk_Clone_ok (z0 := y31a_o0) hI.st (hg.up hI.le) ht31a_o0 hc31a_o0_1 hs31a_o0_1 hc31a_o0_2 hs31a_o0_2 hc31a_o0_3 hs31a_o0_3 h).mono ?_
       have hlo42_o0_13b := ht31a_o0.blk.lt
       rintro _ w42_ ⟨o1_42, y42_o1, A42_o1_1, c42_o1_1, A42_o1_2, c42_o1_2, A42_o1_3, c42_o1_3, L42_, H42_, rfl, hI42_, hge_o1_42, ht42_o1, hc42_o1_1, hs42_o1_1, hc42_o1_2, hs42_o1_2, hc42_o1_3, hs42_o1_3, h⟩
       have hge0_o1_42 := hge_o1_42
       replace hge_o1_42 := Nat.le_trans hI.size hge_o1_42
       refine Exists.elim (hI.call hI42_ (by simp)) fun L420_ h42_ => ?_
       have hz42_ := hI.size
       replace hI := h42_.1
       have u42_ := h42_.2.1
       have hl42_ := h42_.2.2
       clear h42_
       replace hs3 := hs3.up u42_.hh
       replace ht31a_o0 := ht31a_o0.up u42_ (by simp)
       replace hs31a_o0_1 := hs31a_o0_1.up u42_.hh
       replace hs31a_o0_2 := hs31a_o0_2.up u42_.hh
       replace hs31a_o0_3 := hs31a_o0_3.up u42_.hh
       have hneo1_42_o0_13b : o0_13b ≠ o1_42 := fun e_ => absurd hlo42_o0_13b (by omega)
       clear hI42_ u42_ hl42_
       refine ⟨_, rfl, ?_⟩
       refine Ops_call (C_func bd20 rfl) rfl rfl ?_
       refine (journal_Open_ok (z0 := y42_o1) hI.st (hg.up hI.le) ht42_o1 hc42_o1_1 hs42_o1_1 hc42_o1_2 hs42_o1_2 hc42_o1_3 hs42_o1_3 h).mono ?_
       rintro _ w43_ (⟨r43a_1, y43a_o0, A43a_o0_1, c43a_o0_1, A43a_o0_2, c43a_o0_2, A43a_o0_3, c43a_o0_3, L43a_, H43a_, rfl, hI43a_, ht43a_o0, hc43a_o0_1, hs43a_o0_1, hc43a_o0_2, hs43a_o0_2, hc43a_o0_3, hs43a_o0_3, h⟩ | ⟨r43b_1, y43b_o0, A43b_o0_1, c43b_o0_1, A43b_o0_2, c43b_o0_2, A43b_o0_3, c43b_o0_3, o1_43b, y43b_o1, A43b_o1_1, c43b_o1_1, o2_43b, y43b_o2, L43b_, H43b_, rfl, hI43b_, ht43b_o0, hc43b_o0_1, hs43b_o0_1, hc43b_o0_2, hs43b_o0_2, hc43b_o0_3, hs43b_o0_3, hge_o1_43b, ht43b_o1, hc43b_o1_1, hs43b_o1_1, hge_o2_43b, ht43b_o2, h⟩)
       ·
        refine Exists.elim (hI.call hI43a_ (new1 hge_o1_42)) fun L43a0_ h43a_ => ?_
        have hz43a_ := hI.size
        replace hI := h43a_.1
        have u43a_ := h43a_.2.1
        have hl43a_ := h43a_.2.2
        clear h43a_
        replace hs3 := hs3.up u43a_.hh
        replace hs42_o1_1 := hs42_o1_1.up u43a_.hh
        replace hs42_o1_2 := hs42_o1_2.up u43a_.hh
        replace hs42_o1_3 := hs42_o1_3.up u43a_.hh
        clear ht42_o1
        clear hI43a_ u43a_ hl43a_
        refine ⟨_, rfl, ?_⟩
        refine Ops_step (R_move rfl) rfl rfl ?_
        refine Ops_step (R_extract (v := .pointer none) rfl rfl) rfl rfl ?_
        refine Ops_step (R_extract (v := vi r43a_1) rfl rfl) rfl rfl ?_
        refine Ops_step (R_assign rfl) rfl rfl (Ops_step (R_assign rfl) rfl rfl ?_)
        refine Ops_nil ?_
        refine then_n (k41 _ _ ?_)
        clear k41 K41
        refine W_keepB [3, 13, 14, 15] fun B_ b_ => ?_
        simp only [e_, Nat.reduceAdd, Nat.reduceBEq] at b_
        subst b_
        refine W_seq_k fun K45 k45 => ?_
        refine ex_ h fun J46_ hr46_ h => ?_
        refine W_seq_join [3, 13, 15] [87] (fun vals_ w2 => ∃ (x87_46 : Bool) (L H : Gh), vals_ = [.bool x87_46] ∧ J46_ x87_46 ∧ Inv [] G w L H w2 ∧ Le L43a0_ L ∧ Le H43a_ H ∧ True) (fun B_ b_ => ?_) (fun B_ b_ => ?_)
        ·
         simp only [e_, Nat.reduceAdd, Nat.reduceBEq] at b_
         subst b_
         clear hr46_
         have hll46_ := Le.refl L43a0_
         have hhh46_ := Le.refl H43a_
         refine W_region [78, 79, 80, 81, 82, 83, 84, 85, 86, 87] rfl (Ops_step (R_move rfl) rfl rfl (Ops_step (R_neq rfl rfl) rfl rfl (Ops_step (R_move rfl) rfl rfl ?_)))
         refine Ops_split 80 rfl (fun hg47_ => ?_) (fun hg47_ => ?_)
         ·
          replace h := h.1 hg47_
          refine Ops_pass rfl rfl (Ops_pass rfl rfl (Ops_pass rfl rfl (Ops_pass rfl rfl (Ops_pass rfl rfl ?_))))
          refine Ops_pass rfl rfl (Ops_step (R_pick_true rfl rfl) rfl rfl ?_)
          refine Ops_nil ?_
          refine then_n ?_
          exact ⟨_, rfl, ⟨true, _, _, rfl, h, hI, hll46_, hhh46_, trivial⟩, ⟨rfl, rfl, rfl, trivial⟩⟩
         ·
          replace h := h.2 hg47_
          refine Ops_step (R_move rfl) rfl rfl ?_
          refine Ops_call (C_func bd16 rfl) rfl rfl ?_
          refine (sealskinlaw06_records_v1_ok  hI.st (hg.up hI.le)  h).mono ?_
          rintro _ w48_ ⟨A48_0, c48_0, r48_0, L48_, H48_, rfl, hI48_, ho48_0, h⟩
          refine Exists.elim (hI.call hI48_ (by simp)) fun L480_ h48_ => ?_
          have hz48_ := hI.size
          replace hI := h48_.1
          have u48_ := h48_.2.1
          have hl48_ := h48_.2.2
          clear h48_
          replace hs3 := hs3.up u48_.hh
          replace hll46_ := hll46_.trans u48_.ll
          replace hhh46_ := hhh46_.trans u48_.hh
          replace ho48_0 := OwnS.back ho48_0 hz48_ hl48_ (Le.refl _)
          clear hI48_ u48_ hl48_
          refine ⟨_, rfl, ?_⟩
          refine Exists.elim (ho48_0.freeze hI) fun L49_ h49_ => Exists.elim h49_ fun H49_ h49_ => ?_
          replace hI := h49_.1
          have u49_ := h49_.2.1
          have hs49_ := h49_.2.2.1 (Le.refl _)
          have hc49_ := ho48_0.cap
          replace hs3 := hs3.up u49_.hh
          replace hll46_ := hll46_.trans u49_.ll
          replace hhh46_ := hhh46_.trans u49_.hh
          clear h49_ u49_ ho48_0
          refine Ops_step (R_move rfl) rfl rfl ?_
          refine Ops_call (C_func bd16 rfl) rfl rfl ?_
          refine (sealskinlaw06_records_v1_ok  hI.st (hg.up hI.le)  h).mono ?_
          rintro _ w50_ ⟨A50_0, c50_0, r50_0, L50_, H50_, rfl, hI50_, ho50_0, h⟩
          refine Exists.elim (hI.call hI50_ (by simp)) fun L500_ h50_ => ?_
          have hz50_ := hI.size
          replace hI := h50_.1
          have u50_ := h50_.2.1
          have hl50_ := h50_.2.2
          clear h50_
          replace hs3 := hs3.up u50_.hh
          replace hll46_ := hll46_.trans u50_.ll
          replace hhh46_ := hhh46_.trans u50_.hh
          replace hs49_ := hs49_.up u50_.ll
          replace ho50_0 := OwnS.back ho50_0 hz50_ hl50_ (Le.refl _)
          clear hI50_ u50_ hl50_
          refine ⟨_, rfl, ?_⟩
          refine Exists.elim (ho50_0.freeze hI) fun L51_ h51_ => Exists.elim h51_ fun H51_ h51_ => ?_
          replace hI := h51_.1
          have u51_ := h51_.2.1
          have hs51_ := h51_.2.2.1 (Le.refl _)
          have hc51_ := ho50_0.cap
          replace hs3 := hs3.up u51_.hh
          replace hll46_ := hll46_.trans u51_.ll
          replace hhh46_ := hhh46_.trans u51_.hh
          replace hs49_ := hs49_.up u51_.ll
          clear h51_ u51_ ho50_0
          refine Ops_call (C_func bd23 rfl) rfl rfl ?_
          refine (slices_Equal_sealskinref06_Record_sealskinref06_Record_ok (x0 := r48_0) (x1 := r50_0) hI.st (hg.up hI.le) hc49_ (hs49_.up hI.sub) hc51_ (hs51_.up hI.sub) h).mono ?_
          rintro _ w52_ ⟨r52_0, L52_, H52_, rfl, hI52_, h⟩
          refine Exists.elim (hI.call hI52_ (by simp)) fun L520_ h52_ => ?_
          have hz52_ := hI.size
          replace hI := h52_.1
          have u52_ := h52_.2.1
          have hl52_ := h52_.2.2
          clear h52_
          replace hs3 := hs3.up u52_.hh
          replace hll46_ := hll46_.trans u52_.ll
          replace hhh46_ := hhh46_.trans u52_.hh
          clear hI52_ u52_ hl52_
          refine ⟨_, rfl, ?_⟩
          refine Ops_step (R_not rfl) rfl rfl (Ops_step (R_pick_false rfl rfl) rfl rfl ?_)
          refine Ops_nil ?_
          refine then_n ?_
          exact ⟨_, rfl, ⟨(!r52_0), _, _, rfl, h, hI, hll46_, hhh46_, trivial⟩, ⟨rfl, rfl, rfl, trivial⟩⟩
        ·
         simp only [e_, Nat.reduceAdd, Nat.reduceBEq] at b_
         subst b_
         clear h
         rintro _ w46_ ⟨x87_46, L46_, H46_, rfl, hJ46_, hI46_, hll46_, hhh46_, -⟩
         replace hI := hI46_
         clear hI46_
         have h := hr46_ x87_46 hJ46_
         clear hr46_ hJ46_
         replace hs3 := hs3.up hhh46_
         refine W_cond rfl (fun hc53_ => ?_) (fun hc53_ => ?_)
         ·
          replace h := h.1 hc53_
          refine W_seq_k fun K54 k54 => ?_
          refine W_region [8] rfl (Ops_step (R_assign rfl) rfl rfl ?_)
          refine Ops_nil ?_
          refine then_n (k54 _ _ ?_)
          clear k54 K54
          refine W_ret ?_
          refine then_ret ?_
          clear k45 K45
          refine ⟨_, ⟨_, _, rfl, rfl, rfl⟩, ?_⟩
          exact ⟨false, _, _, rfl, hI, h⟩
         ·
          replace h := h.2 hc53_
          refine W_skip ?_
          refine then_n (k45 _ _ ?_)
          clear k45 K45
          refine ex_ h fun J55_ hr55_ h => ?_
          refine W_seq_join [] [] (fun vals_ w2 => ∃  (L H : Gh), vals_ = [] ∧ J55_ ∧ Inv [] G w L H w2 ∧ Le L46_ L ∧ Le H46_ H ∧ True) (fun B_ b_ => ?_) (fun B_ b_ => ?_)
          ·
           simp only [e_, Nat.reduceAdd, Nat.reduceBEq] at b_
           subst b_
           clear hr55_
           have hll55_ := Le.refl L46_
           have hhh55_ := Le.refl H46_
           refine W_seq_k fun K56 k56 => ?_
           refine W_region [88, 89, 90] rfl (Ops_step (R_move rfl) rfl rfl (Ops_step (R_len Try.underlying22 rfl rfl) rfl rfl (Ops_step (R_move rfl) rfl rfl ?_)))
           refine Ops_nil ?_
           refine then_n (k56 _ _ ?_)
           clear k56 K56
           refine W_block ?_
           refine Exists.elim h fun I57_ h => Exists.elim h fun n57_ h => ?_
           have h0_ := h.1
           have hs57_ := h.2
           clear h
           refine W_loopB [13, 15, 88, 89] [90] (fun m vals_ w2 => ∃ (x90_57 : Int) (L H : Gh), vals_ = [vi x90_57] ∧ I57_ m x90_57 ∧ Inv [] G w L H w2 ∧ Le L46_ L ∧ Le H46_ H ∧ True) n57_ _ rfl ⟨0, _, _, rfl, h0_, hI, Le.refl _, Le.refl _, trivial⟩ fun B_ b_ => ?_
           clear h0_
           simp only [e_, Nat.reduceAdd, Nat.reduceBEq] at b_
           subst b_
           rintro m57_ _ w57_ ⟨x90_57, L57_, H57_, rfl, hJ57_, hI57_, hll57_, hhh57_, -⟩
           replace hI := hI57_
           clear hI57_
           have h := hs57_ m57_ x90_57 hJ57_
           clear hs57_ hJ57_
           replace hs3 := hs3.up hhh57_
           replace hll55_ := hll55_.trans hll57_
           replace hhh55_ := hhh55_.trans hhh57_
           refine W_seq_k fun K58 k58 => ?_
           refine W_region [91] rfl (Ops_step (R_lss rfl rfl) rfl rfl ?_)
           refine Ops_nil ?_
           refine then_n (k58 _ _ ?_)
           clear k58 K58
           refine W_seq_k fun K59 k59 => ?_
           refine W_if rfl (fun hc60_ => ?_) (fun hc60_ => ?_)
           ·
            replace h := h.1 hc60_
            refine W_skip ?_
            refine then_n (k59 _ _ ?_)
            clear k59 K59
            refine W_seq_k fun K61 k61 => ?_
            refine W_block ?_
            refine W_seq_k fun K62 k62 => ?_
            refine W_region [92, 93, 17, none] rfl ?_
            refine ex_ h fun x63_ hx63_ h => ?_
            have ha63_ := (Sl.atN (n := 4) rfl (by decide) hs3 hx63_).1
            refine Exists.elim (Sl.atN (n := 4) rfl (by decide) hs3 hx63_).2 fun l63_ hA63_ => ?_
            have hr63_ := hA63_.1
            have hg63_ := hA63_.2
            clear hA63_
            refine Ops_step (R_indexSl Try.underlying22 sz31 rfl rfl hx63_.1 hx63_.lt ha63_) rfl rfl ?_
            obtain ⟨A63_1, c63_1, rfl, ⟨hc63_1, hs63_1⟩⟩ := hr63_
            refine Ops_step (R_loadCs (cs := [vi x63_.Op_, vi x63_.Label_, vi x63_.N_, .slice A63_1 x63_.B_.length c63_1]) ag31 sz31 rfl (fun j_ v_ hv_ => hI.st _ _ (hg63_ j_ v_ hv_))) rfl rfl ?_
            have hI0_ := hI
            refine Ops_to (R_alloc zr31) rfl rfl ?_
            rintro _ w64_ ⟨b64_, rfl, hb64_, hB64_, hF64_⟩
            replace hI := hI.fr0 hF64_
            have ht64_ : Tok H57_ _ b64_ 31 ([vi 0, vi 0, vi 0, .slice none 0 0]) := ⟨hB64_.to rfl, Out.ge hI0_.st (Nat.le_of_eq hb64_.symm)⟩
            have hge_b64_ : w.heap.size ≤ b64_ := hb64_ ▸ hI0_.size
            clear hB64_ hb64_ hI0_ hF64_
            refine Ops_to0 (R_storeN sz31 rfl rfl rfl ht64_.blk (Nat.le_of_ble_eq_true rfl) rfl) rfl ?_
            rintro _ w65_ ⟨hB65_, hF65_⟩
            replace hI := hI.tok hF65_ (out1 ht64_.out) (new1 hge_b64_)
            replace ht64_ : Tok H57_ _ b64_ 31 ([vi x63_.Op_, vi x63_.Label_, vi x63_.N_, .slice A63_1 x63_.B_.length c63_1]) := ⟨hB65_, ht64_.out⟩
            clear hF65_ hB65_
            refine Ops_nil ?_
            refine then_n (k62 _ _ ?_)
            clear k62 K62
            refine ex_ h fun J66_ hr66_ h => ?_
            refine W_seq_join [13, 15, 88, 89, 90] [120] (fun vals_ w2 => ∃ (x120_66 : Bool) (L H : Gh), vals_ = [.bool x120_66] ∧ J66_ x120_66 ∧ Inv [] G w L H w2 ∧ Le L57_ L ∧ Le H57_ H ∧ True) (fun B_ b_ => ?_) (fun B_ b_ => ?_)
            ·
             simp only [e_, Nat.reduceAdd, Nat.reduceBEq] at b_
             subst b_
             clear hr66_
             have hll66_ := Le.refl L57_
             have hhh66_ := Le.refl H57_
             refine W_drawF [94, 95, 96, 97, 98, 99, 100, 101, 102, 103, 104, 105, 106, 107, 108, 109, 110, 111, 112, 113, 114, 115, 116, 117, 118, 119, 120] [(0, true), (1, true), (2, true), (3, true), (4, true), (5, true), (6, true), (7, true), (8, true), (9, true), (11, true), (12, true), (13, true), (14, true), (15, true), (10, false), (16, false), (17, true), (18, true), (19, true), (21, true), (20, false), (22, false), (23, false), (24, true), (25, true), (26, true)] TJmAgain.hm rfl (by kernel_rfl) fun ops67_ w67_ hops67_ hF67_ => ?_
             replace hI := hI.fr0 hF67_
             replace ht64_ := ht64_.fr0 hF67_
             clear hF67_
             refine HSp (R_fieldAddr fo31_0 rfl) rfl rfl ?_
             refine HS_loadB (v := vi x63_.Op_) ag3 rfl ht64_.blk rfl rfl rfl ?_
             refine HSp (R_and rfl rfl (andI_wrap _ _)) rfl rfl (HSp (R_lss rfl rfl) rfl rfl (HSp (R_move rfl) rfl rfl ?_))
             refine HS_split 98 rfl (fun hg68_ => ?_) (fun hg68_ => ?_)
             ·
              replace h := h.1 hg68_
              refine HSp (R_move rfl) rfl rfl (HSp (R_fieldAddr fo31_1 rfl) rfl rfl ?_)
              refine HS_loadB (v := vi x63_.Label_) ag3 rfl ht64_.blk rfl rfl rfl ?_
              refine HSp (R_fieldAddr fo31_3 rfl) rfl rfl ?_
              refine HS_loadB (v := .slice A63_1 x63_.B_.length c63_1) ag29 rfl ht64_.blk rfl rfl rfl ?_
              refine HSp (R_move rfl) rfl rfl (HSp (R_fieldAddr fo31_1 rfl) rfl rfl ?_)
              refine HS_loadB (v := vi x63_.Label_) ag3 rfl ht64_.blk rfl rfl rfl ?_
              refine HSp (R_fieldAddr fo31_3 rfl) rfl rfl ?_
              refine HS_loadB (v := .slice A63_1 x63_.B_.length c63_1) ag29 rfl ht64_.blk rfl rfl rfl ?_
              refine HS_call [15, 13] _ rfl (by rw [hops67_]; kernel_rfl) (C_func bd15 rfl) rfl rfl ?_
              refine (journal_Journal_Put_v1_ok (x1 := x63_.Label_) (x2 := x63_.B_) hI.st (hg.up hI.le) hc63_1 hs63_1 h).mono ?_
              rintro _ w69_ ⟨r69_0, L69_, H69_, rfl, hI69_, h⟩
              refine Exists.elim (hI.call hI69_ (by simp)) fun L690_ h69_ => ?_
              have hz69_ := hI.size
              replace hI := h69_.1
              have u69_ := h69_.2.1
              have hl69_ := h69_.2.2
              clear h69_
              replace hs3 := hs3.up u69_.hh
              replace hll55_ := hll55_.trans u69_.ll
              replace hhh55_ := hhh55_.trans u69_.hh
              replace hll57_ := hll57_.trans u69_.ll
              replace hhh57_ := hhh57_.trans u69_.hh
              replace hs63_1 := hs63_1.up u69_.hh
              replace ht64_ := ht64_.up u69_ (by simp)
              replace hll66_ := hll66_.trans u69_.ll
              replace hhh66_ := hhh66_.trans u69_.hh
              clear hI69_ u69_ hl69_
              refine ⟨_, rfl, ⟨(ht64_.blk.at_ rfl), (ht64_.blk.at_ rfl), trivial⟩, ?_⟩
              refine HS_call [] _ rfl (by rw [hops67_]; kernel_rfl) (C_func bd15 rfl) rfl rfl ?_
              refine (journal_Journal_Put_v1_ok (x1 := x63_.Label_) (x2 := x63_.B_) hI.st (hg.up hI.le) hc63_1 hs63_1 h).mono ?_
              rintro _ w70_ ⟨r70_0, L70_, H70_, rfl, hI70_, h⟩
              refine Exists.elim (hI.call hI70_ (by simp)) fun L700_ h70_ => ?_
              have hz70_ := hI.size
              replace hI := h70_.1
              have u70_ := h70_.2.1
              have hl70_ := h70_.2.2
              clear h70_
              replace hs3 := hs3.up u70_.hh
              replace hll55_ := hll55_.trans u70_.ll
              replace hhh55_ := hhh55_.trans u70_.hh
              replace hll57_ := hll57_.trans u70_.ll
              replace hhh57_ := hhh57_.trans u70_.hh
              replace hs63_1 := hs63_1.up u70_.hh
              replace ht64_ := ht64_.up u70_ (by simp)
              replace hll66_ := hll66_.trans u70_.ll
              replace hhh66_ := hhh66_.trans u70_.hh
              clear hI70_ u70_ hl70_
              refine ⟨_, rfl, trivial, ?_⟩
              refine HSp (R_neq rfl rfl) rfl rfl (HSp (R_move rfl) rfl rfl ?_)
              refine HS_split 112 rfl (fun hg71_ => ?_) (fun hg71_ => ?_)
              ·
               replace h := h.1 hg71_
               refine HS_pass rfl rfl ?_
               refine HS_pass rfl rfl ?_
               refine HS_passL rfl rfl ?_
               refine HS_passL rfl rfl ?_
               refine HS_passL rfl rfl ?_
               refine HS_pass rfl rfl ?_
               refine HSp (R_pick_true rfl rfl) rfl rfl (HSp (R_pick_true rfl rfl) rfl rfl ?_)
               refine HS_nil ?_
               clear hops67_
               refine then_n ?_
               exact ⟨_, rfl, ⟨true, _, _, rfl, h, hI, hll66_, hhh66_, trivial⟩, ⟨rfl, rfl, rfl, rfl, rfl, trivial⟩⟩
              ·
               replace h := h.2 hg71_
               refine HSp (R_move rfl) rfl rfl (HSp (R_move rfl) rfl rfl ?_)
               refine HS_call [] _ rfl (by rw [hops67_]; kernel_rfl) (C_func bd16 rfl) rfl rfl ?_
               refine (sealskinlaw06_records_v1_ok  hI.st (hg.up hI.le)  h).mono ?_
               rintro _ w72_ ⟨A72_0, c72_0, r72_0, L72_, H72_, rfl, hI72_, ho72_0, h⟩
               refine Exists.elim (hI.call hI72_ (by simp)) fun L720_ h72_ => ?_
               have hz72_ := hI.size
               replace hI := h72_.1
               have u72_ := h72_.2.1
               have hl72_ := h72_.2.2
               clear h72_
               replace hs3 := hs3.up u72_.hh
               replace hll55_ := hll55_.trans u72_.ll
               replace hhh55_ := hhh55_.trans u72_.hh
               replace hll57_ := hll57_.trans u72_.ll
               replace hhh57_ := hhh57_.trans u72_.hh
               replace hs63_1 := hs63_1.up u72_.hh
               replace ht64_ := ht64_.up u72_ (by simp)
               replace hll66_ := hll66_.trans u72_.ll
               replace hhh66_ := hhh66_.trans u72_.hh
               replace ho72_0 := OwnS.back ho72_0 hz72_ hl72_ (Le.refl _)
               clear hI72_ u72_ hl72_
               refine ⟨_, rfl, trivial, ?_⟩
               refine Exists.elim (ho72_0.freeze hI) fun L73_ h73_ => Exists.elim h73_ fun H73_ h73_ => ?_
               replace hI := h73_.1
               have u73_ := h73_.2.1
               have hs73_ := h73_.2.2.1 (Le.refl _)
               have hc73_ := ho72_0.cap
               replace hs3 := hs3.up u73_.hh
               replace hll55_ := hll55_.trans u73_.ll
               replace hhh55_ := hhh55_.trans u73_.hh
               replace hll57_ := hll57_.trans u73_.ll
               replace hhh57_ := hhh57_.trans u73_.hh
               replace hs63_1 := hs63_1.up u73_.hh
               replace ht64_ := ht64_.up u73_ (ht64_.sep ho72_0 (by decide))
               replace hll66_ := hll66_.trans u73_.ll
               replace hhh66_ := hhh66_.trans u73_.hh
               clear h73_ u73_ ho72_0
               refine HS_call [] _ rfl (by rw [hops67_]; kernel_rfl) (C_func bd16 rfl) rfl rfl ?_
               refine (sealskinlaw06_records_v1_ok  hI.st (hg.up hI.le)  h).mono ?_
               rintro _ w74_ ⟨A74_0, c74_0, r74_0, L74_, H74_, rfl, hI74_, ho74_0, h⟩
               refine Exists.elim (hI.call hI74_ (by simp)) fun L740_ h74_ => ?_
               have hz74_ := hI.size
               replace hI := h74_.1
               have u74_ := h74_.2.1
               have hl74_ := h74_.2.2
               clear h74_
               replace hs3 := hs3.up u74_.hh
               replace hll55_ := hll55_.trans u74_.ll
               replace hhh55_ := hhh55_.trans u74_.hh
               replace hll57_ := hll57_.trans u74_.ll
               replace hhh57_ := hhh57_.trans u74_.hh
               replace hs63_1 := hs63_1.up u74_.hh
               replace ht64_ := ht64_.up u74_ (by simp)
               replace hll66_ := hll66_.trans u74_.ll
               replace hhh66_ := hhh66_.trans u74_.hh
               replace hs73_ := hs73_.up u74_.ll
               replace ho74_0 := OwnS.back ho74_0 hz74_ hl74_ (Le.refl _)
               clear hI74_ u74_ hl74_
               refine ⟨_, rfl, trivial, ?_⟩
               refine Exists.elim (ho74_0.freeze hI) fun L75_ h75_ => Exists.elim h75_ fun H75_ h75_ => ?_
               replace hI := h75_.1
               have u75_ := h75_.2.1
               have hs75_ := h75_.2.2.1 (Le.refl _)
               have hc75_ := ho74_0.cap
               replace hs3 := hs3.up u75_.hh
               replace hll55_ := hll55_.trans u75_.ll
               replace hhh55_ := hhh55_.trans u75_.hh
               replace hll57_ := hll57_.trans u75_.ll
               replace hhh57_ := hhh57_.trans u75_.hh
               replace hs63_1 := hs63_1.up u75_.hh
               replace ht64_ := ht64_.up u75_ (ht64_.sep ho74_0 (by decide))
               replace hll66_ := hll66_.trans u75_.ll
               replace hhh66_ := hhh66_.trans u75_.hh
               replace hs73_ := hs73_.up u75_.ll
               clear h75_ u75_ ho74_0
               refine HS_call [] _ rfl (by rw [hops67_]; kernel_rfl) (C_func bd23 rfl) rfl rfl ?_
               refine (slices_Equal_sealskinref06_Record_sealskinref06_Record_ok (x0 := r72_0) (x1 := r74_0) hI.st (hg.up hI.le) hc73_ (hs73_.up hI.sub) hc75_ (hs75_.up hI.sub) h).mono ?_
               rintro _ w76_ ⟨r76_0, L76_, H76_, rfl, hI76_, h⟩
               refine Exists.elim (hI.call hI76_ (by simp)) fun L760_ h76_ => ?_
               have hz76_ := hI.size
               replace hI := h76_.1
               have u76_ := h76_.2.1
               have hl76_ := h76_.2.2
               clear h76_
               replace hs3 := hs3.up u76_.hh
               replace hll55_ := hll55_.trans u76_.ll
               replace hhh55_ := hhh55_.trans u76_.hh
               replace hll57_ := hll57_.trans u76_.ll
               replace hhh57_ := hhh57_.trans u76_.hh
               replace hs63_1 := hs63_1.up u76_.hh
               replace ht64_ := ht64_.up u76_ (by simp)
               replace hll66_ := hll66_.trans u76_.ll
               replace hhh66_ := hhh66_.trans u76_.hh
               replace hs73_ := hs73_.up u76_.ll
               replace hs75_ := hs75_.up u76_.ll
               clear hI76_ u76_ hl76_
               refine ⟨_, rfl, trivial, ?_⟩
               refine HSp (R_not rfl) rfl rfl (HSp (R_pick_false rfl rfl) rfl rfl (HSp (R_pick_true rfl rfl) rfl rfl ?_))
               refine HS_nil ?_
               clear hops67_
               refine then_n ?_
               exact ⟨_, rfl, ⟨(!r76_0), _, _, rfl, h, hI, hll66_, hhh66_, trivial⟩, ⟨rfl, rfl, rfl, rfl, rfl, trivial⟩⟩
             ·
              replace h := h.2 hg68_
              refine HS_pass rfl rfl ?_
              refine HS_pass rfl rfl ?_
              refine HS_pass rfl rfl ?_
              refine HS_pass rfl rfl ?_
              refine HS_pass rfl rfl ?_
              refine HS_pass rfl rfl ?_
              refine HS_pass rfl rfl ?_
              refine HS_pass rfl rfl ?_
              refine HS_pass rfl rfl ?_
              refine HS_pass rfl rfl ?_
              refine HS_passL rfl rfl ?_
              refine HS_passL rfl rfl ?_
              refine HS_pass rfl rfl ?_
              refine HS_pass rfl rfl ?_
              refine HS_passU rfl rfl ?_
              refine HS_passU rfl rfl ?_
              refine HS_passLU rfl rfl ?_
              refine HS_passLU rfl rfl ?_
              refine HS_passLU rfl rfl ?_
              refine HS_passU rfl rfl ?_
              refine HS_pass rfl rfl ?_
              refine HSp (R_pick_false rfl rfl) rfl rfl ?_
              refine HS_nil ?_
              clear hops67_
              refine then_n ?_
              exact ⟨_, rfl, ⟨false, _, _, rfl, h, hI, hll66_, hhh66_, trivial⟩, ⟨rfl, rfl, rfl, rfl, rfl, trivial⟩⟩
            ·
             simp only [e_, Nat.reduceAdd, Nat.reduceBEq] at b_
             subst b_
             clear h
             rintro _ w66_ ⟨x120_66, L66_, H66_, rfl, hJ66_, hI66_, hll66_, hhh66_, -⟩
             replace hI := hI66_
             clear hI66_
             have h := hr66_ x120_66 hJ66_
             clear hr66_ hJ66_
             replace hs3 := hs3.up hhh66_
             replace hll55_ := hll55_.trans hll66_
             replace hhh55_ := hhh55_.trans hhh66_
             replace hll57_ := hll57_.trans hll66_
             replace hhh57_ := hhh57_.trans hhh66_
             refine W_cond rfl (fun hc77_ => ?_) (fun hc77_ => ?_)
             ·
              replace h := h.1 hc77_
              refine W_seq_k fun K78 k78 => ?_
              refine W_region [8] rfl (Ops_step (R_assign rfl) rfl rfl ?_)
              refine Ops_nil ?_
              refine then_n (k78 _ _ ?_)
              clear k78 K78
              refine W_keepB [8] fun B_ b_ => ?_
              simp only [e_, Nat.reduceAdd, Nat.reduceBEq] at b_
              subst b_
              refine W_ret ?_
              refine block_ret ?_
              refine then_ret ?_
              clear k61 K61
              refine then_ret ?_
              refine block_ret ?_
              refine then_ret ?_
              refine ⟨_, ⟨_, _, rfl, rfl, rfl⟩, ?_⟩
              exact ⟨false, _, _, rfl, hI, h⟩
             ·
              replace h := h.2 hc77_
              refine W_skip ?_
              refine block_n ?_
              refine then_n (k61 _ _ ?_)
              clear k61 K61
              refine W_region [121, 90] rfl ?_
              have hk80_ := h.1
              replace h := h.2
              refine Ops_step (R_add rfl rfl (wI hk80_.1 hk80_.2)) rfl rfl (Ops_step (R_move rfl) rfl rfl ?_)
              refine Ops_nil ?_
              refine then_n ?_
              exact h.elim fun m_ h => ⟨m_, _, h.1, rfl, ⟨(x90_57 + 1), _, _, rfl, h.2, hI, hll57_, hhh57_, trivial⟩, ⟨rfl, rfl, rfl, rfl, trivial⟩⟩
           ·
            replace h := h.2 hc60_
            refine W_exit ?_
            refine then_exit ?_
            clear k59 K59
            refine then_exit ?_
            refine block_exit ?_
            refine then_n ?_
            exact ⟨_, rfl, ⟨_, _, rfl, h, hI, hll55_, hhh55_, trivial⟩, trivial⟩
          ·
           simp only [e_, Nat.reduceAdd, Nat.reduceBEq] at b_
           subst b_
           clear h
           rintro _ w55_ ⟨L55_, H55_, rfl, hJ55_, hI55_, hll55_, hhh55_, -⟩
           replace hI := hI55_
           clear hI55_
           have h := hr55_ hJ55_
           clear hr55_ hJ55_
           refine W_seq_k fun K81 k81 => ?_
           refine W_region [122, 8] rfl ?_
           refine Ops_call (C_func bd12 rfl) rfl rfl ?_
           refine (sealskinlaw06_awake_ok  hI.st (hg.up hI.le)  h).mono ?_
           rintro _ w82_ ⟨r82_0, L82_, H82_, rfl, hI82_, h⟩
           refine Exists.elim (hI.call hI82_ (by simp)) fun L820_ h82_ => ?_
           have hz82_ := hI.size
           replace hI := h82_.1
           have u82_ := h82_.2.1
           have hl82_ := h82_.2.2
           clear h82_
           clear hI82_ u82_ hl82_
           refine ⟨_, rfl, ?_⟩
           refine Ops_step (R_assign rfl) rfl rfl ?_
           refine Ops_nil ?_
           refine then_n (k81 _ _ ?_)
           clear k81 K81
           refine W_ret ?_
           refine ⟨_, ⟨_, _, rfl, rfl, rfl⟩, ?_⟩
           exact ⟨r82_0, _, _, rfl, hI, h⟩
       ·
        have hge0_o1_43b := hge_o1_43b
        replace hge_o1_43b := Nat.le_trans hI.size hge_o1_43b
        have hge0_o2_43b := hge_o2_43b
        replace hge_o2_43b := Nat.le_trans hI.size hge_o2_43b
        refine Exists.elim (hI.call hI43b_ (new1 hge_o1_42)) fun L43b0_ h43b_ => ?_
        have hz43b_ := hI.size
        replace hI := h43b_.1
        have u43b_ := h43b_.2.1
        have hl43b_ := h43b_.2.2
        clear h43b_
        replace hs3 := hs3.up u43b_.hh
        replace hs42_o1_1 := hs42_o1_1.up u43b_.hh
        replace hs42_o1_2 := hs42_o1_2.up u43b_.hh
        replace hs42_o1_3 := hs42_o1_3.up u43b_.hh
        clear ht42_o1
        clear hI43b_ u43b_ hl43b_
        refine ⟨_, rfl, ?_⟩
        refine Ops_step (R_move rfl) rfl rfl ?_
        refine Ops_step (R_extract (v := .pointer (some ⟨o1_43b, 0, none⟩)) rfl rfl) rfl rfl ?_
        refine Ops_step (R_extract (v := vi r43b_1) rfl rfl) rfl rfl ?_
        refine Ops_step (R_assign rfl) rfl rfl (Ops_step (R_assign rfl) rfl rfl ?_)
        refine Ops_nil ?_
        refine then_n (k41 _ _ ?_)
        clear k41 K41
        refine W_keepB [3, 13, 14, 15] fun B_ b_ => ?_
        simp only [e_, Nat.reduceAdd, Nat.reduceBEq] at b_
        subst b_
        refine W_seq_k fun K84 k84 => ?_
        refine ex_ h fun J85_ hr85_ h => ?_
        refine W_seq_join [3, 13, 15] [87] (fun vals_ w2 => ∃ (x87_85 : Bool) (L H : Gh), vals_ = [.bool x87_85] ∧ J85_ x87_85 ∧ Inv [] G w L H w2 ∧ Le L43b0_ L ∧ Le H43b_ H ∧ Tok H w2 o1_42 53 ([.slice A43b_o0_1 y43b_o0.files_.e0_.length c43b_o0_1, .slice A43b_o0_2 y43b_o0.files_.e1_.length c43b_o0_2, .slice A43b_o0_3 y43b_o0.files_.e2_.length c43b_o0_3, vi y43b_o0.room_, .bool y43b_o0.off_, .bool y43b_o0.armed_, vi y43b_o0.left_]) ∧ Tok H w2 o1_43b 46 ([.slice A43b_o1_1 y43b_o1.book_.l_.length c43b_o1_1, .map (some o2_43b), .pointer (some ⟨o1_42, 0, none⟩), vi y43b_o1.gen_, vi y43b_o1.place_]) ∧ MTok H H w2 o2_43b y43b_o2 ∧ True) (fun B_ b_ => ?_) (fun B_ b_ => ?_)
        ·
         simp only [e_, Nat.reduceAdd, Nat.reduceBEq] at b_
         subst b_
         clear hr85_
         have hll85_ := Le.refl L43b0_
         have hhh85_ := Le.refl H43b_
         refine W_region [78, 79, 80, 81, 82, 83, 84, 85, 86, 87] rfl (Ops_step (R_move rfl) rfl rfl (Ops_step (R_neq rfl rfl) rfl rfl (Ops_step (R_move rfl) rfl rfl ?_)))
         refine Ops_split 80 rfl (fun hg86_ => ?_) (fun hg86_ => ?_)
         ·
          replace h := h.1 hg86_
          refine Ops_pass rfl rfl (Ops_pass rfl rfl (Ops_pass rfl rfl (Ops_pass rfl rfl (Ops_pass rfl rfl ?_))))
          refine Ops_pass rfl rfl (Ops_step (R_pick_true rfl rfl) rfl rfl ?_)
          refine Ops_nil ?_
          refine then_n ?_
          exact ⟨_, rfl, ⟨true, _, _, rfl, h, hI, hll85_, hhh85_, ht43b_o0, ht43b_o1, ht43b_o2, trivial⟩, ⟨rfl, rfl, rfl, trivial⟩⟩
         ·
          replace h := h.2 hg86_
          refine Ops_step (R_move rfl) rfl rfl ?_
          refine Ops_call (C_func bd16 rfl) rfl rfl ?_
          refine (sealskinlaw06_records_v1_ok  hI.st (hg.up hI.le)  h).mono ?_
          rintro _ w87_ ⟨A87_0, c87_0, r87_0, L87_, H87_, rfl, hI87_, ho87_0, h⟩
          refine Exists.elim (hI.call hI87_ (by simp)) fun L870_ h87_ => ?_
          have hz87_ := hI.size
          replace hI := h87_.1
          have u87_ := h87_.2.1
          have hl87_ := h87_.2.2
          clear h87_
          replace hs3 := hs3.up u87_.hh
          replace ht43b_o0 := ht43b_o0.up u87_ (by simp)
          replace hs43b_o0_1 := hs43b_o0_1.up u87_.hh
          replace hs43b_o0_2 := hs43b_o0_2.up u87_.hh
          replace hs43b_o0_3 := hs43b_o0_3.up u87_.hh
          replace ht43b_o1 := ht43b_o1.up u87_ (by simp)
          replace hs43b_o1_1 := hs43b_o1_1.up u87_.hh
          replace ht43b_o2 := ht43b_o2.up u87_.hh u87_ (by simp)
          replace hll85_ := hll85_.trans u87_.ll
          replace hhh85_ := hhh85_.trans u87_.hh
          replace ho87_0 := OwnS.back ho87_0 hz87_ hl87_ (Le.refl _)
          clear hI87_ u87_ hl87_
          refine ⟨_, rfl, ?_⟩
          refine Exists.elim (ho87_0.freeze hI) fun L88_ h88_ => Exists.elim h88_ fun H88_ h88_ => ?_
          replace hI := h88_.1
          have u88_ := h88_.2.1
          have hs88_ := h88_.2.2.1 (Le.refl _)
          have hc88_ := ho87_0.cap
          replace hs3 := hs3.up u88_.hh
          replace ht43b_o0 := ht43b_o0.up u88_ (ht43b_o0.sep ho87_0 (by decide))
          replace hs43b_o0_1 := hs43b_o0_1.up u88_.hh
          replace hs43b_o0_2 := hs43b_o0_2.up u88_.hh
          replace hs43b_o0_3 := hs43b_o0_3.up u88_.hh
          replace ht43b_o1 := ht43b_o1.up u88_ (ht43b_o1.sep ho87_0 (by decide))
          replace hs43b_o1_1 := hs43b_o1_1.up u88_.hh
          replace ht43b_o2 := ht43b_o2.up u88_.hh u88_ (ht43b_o2.neO ho87_0)
          replace hll85_ := hll85_.trans u88_.ll
          replace hhh85_ := hhh85_.trans u88_.hh
          clear h88_ u88_ ho87_0
          refine Ops_step (R_move rfl) rfl rfl ?_
          refine Ops_call (C_func bd16 rfl) rfl rfl ?_
          refine (sealskinlaw06_records_ok (z0 := y43b_o1) (z1 := y43b_o2) (z2 := y43b_o0) hI.st (hg.up hI.le) ht43b_o2 ht43b_o0 hc43b_o0_1 hs43b_o0_1 hc43b_o0_2 hs43b_o0_2 hc43b_o0_3 hs43b_o0_3 ht43b_o1 hc43b_o1_1 hs43b_o1_1 h).mono ?_
          rintro _ w89_ ⟨A89_0, c89_0, r89_0, L89_, H89_, rfl, hI89_, ho89_0, h⟩
          refine Exists.elim (hI.call hI89_ (by simp)) fun L890_ h89_ => ?_
          have hz89_ := hI.size
          replace hI := h89_.1
          have u89_ := h89_.2.1
          have hl89_ := h89_.2.2
          clear h89_
          replace hs3 := hs3.up u89_.hh
          replace ht43b_o0 := ht43b_o0.up u89_ (by simp)
          replace hs43b_o0_1 := hs43b_o0_1.up u89_.hh
          replace hs43b_o0_2 := hs43b_o0_2.up u89_.hh
          replace hs43b_o0_3 := hs43b_o0_3.up u89_.hh
          replace ht43b_o1 := ht43b_o1.up u89_ (by simp)
          replace hs43b_o1_1 := hs43b_o1_1.up u89_.hh
          replace ht43b_o2 := ht43b_o2.up u89_.hh u89_ (by simp)
          replace hll85_ := hll85_.trans u89_.ll
          replace hhh85_ := hhh85_.trans u89_.hh
          replace hs88_ := hs88_.up u89_.ll
          replace ho89_0 := OwnS.back ho89_0 hz89_ hl89_ (Le.refl _)
          clear hI89_ u89_ hl89_
          refine ⟨_, rfl, ?_⟩
          refine Exists.elim (ho89_0.freeze hI) fun L90_ h90_ => Exists.elim h90_ fun H90_ h90_ => ?_
          replace hI := h90_.1
          have u90_ := h90_.2.1
          have hs90_ := h90_.2.2.1 (Le.refl _)
          have hc90_ := ho89_0.cap
          replace hs3 := hs3.up u90_.hh
          replace ht43b_o0 := ht43b_o0.up u90_ (ht43b_o0.sep ho89_0 (by decide))
          replace hs43b_o0_1 := hs43b_o0_1.up u90_.hh
          replace hs43b_o0_2 := hs43b_o0_2.up u90_.hh
          replace hs43b_o0_3 := hs43b_o0_3.up u90_.hh
          replace ht43b_o1 := ht43b_o1.up u90_ (ht43b_o1.sep ho89_0 (by decide))
          replace hs43b_o1_1 := hs43b_o1_1.up u90_.hh
          replace ht43b_o2 := ht43b_o2.up u90_.hh u90_ (ht43b_o2.neO ho89_0)
          replace hll85_ := hll85_.trans u90_.ll
          replace hhh85_ := hhh85_.trans u90_.hh
          replace hs88_ := hs88_.up u90_.ll
          clear h90_ u90_ ho89_0
          refine Ops_call (C_func bd23 rfl) rfl rfl ?_
          refine (slices_Equal_sealskinref06_Record_sealskinref06_Record_ok (x0 := r87_0) (x1 := r89_0) hI.st (hg.up hI.le) hc88_ (hs88_.up hI.sub) hc90_ (hs90_.up hI.sub) h).mono ?_
          rintro _ w91_ ⟨r91_0, L91_, H91_, rfl, hI91_, h⟩
          refine Exists.elim (hI.call hI91_ (by simp)) fun L910_ h91_ => ?_
          have hz91_ := hI.size
          replace hI := h91_.1
          have u91_ := h91_.2.1
          have hl91_ := h91_.2.2
          clear h91_
          replace hs3 := hs3.up u91_.hh
          replace ht43b_o0 := ht43b_o0.up u91_ (by simp)
          replace hs43b_o0_1 := hs43b_o0_1.up u91_.hh
          replace hs43b_o0_2 := hs43b_o0_2.up u91_.hh
          replace hs43b_o0_3 := hs43b_o0_3.up u91_.hh
          replace ht43b_o1 := ht43b_o1.up u91_ (by simp)
          replace hs43b_o1_1 := hs43b_o1_1.up u91_.hh
          replace ht43b_o2 := ht43b_o2.up u91_.hh u91_ (by simp)
          replace hll85_ := hll85_.trans u91_.ll
          replace hhh85_ := hhh85_.trans u91_.hh
          clear hI91_ u91_ hl91_
          refine ⟨_, rfl, ?_⟩
          refine Ops_step (R_not rfl) rfl rfl (Ops_step (R_pick_false rfl rfl) rfl rfl ?_)
          refine Ops_nil ?_
          refine then_n ?_
          exact ⟨_, rfl, ⟨(!r91_0), _, _, rfl, h, hI, hll85_, hhh85_, ht43b_o0, ht43b_o1, ht43b_o2, trivial⟩, ⟨rfl, rfl, rfl, trivial⟩⟩
        ·
         simp only [e_, Nat.reduceAdd, Nat.reduceBEq] at b_
         subst b_
         clear h
         clear ht43b_o0
         clear ht43b_o1
         clear ht43b_o2
         rintro _ w85_ ⟨x87_85, L85_, H85_, rfl, hJ85_, hI85_, hll85_, hhh85_, ht43b_o0, ht43b_o1, ht43b_o2, -⟩
         replace hI := hI85_
         clear hI85_
         have h := hr85_ x87_85 hJ85_
         clear hr85_ hJ85_
         replace hs3 := hs3.up hhh85_
         replace hs43b_o0_1 := hs43b_o0_1.up hhh85_
         replace hs43b_o0_2 := hs43b_o0_2.up hhh85_
         replace hs43b_o0_3 := hs43b_o0_3.up hhh85_
         replace hs43b_o1_1 := hs43b_o1_1.up hhh85_
         refine W_cond rfl (fun hc92_ => ?_) (fun hc92_ => ?_)
         ·
          replace h := h.1 hc92_
          refine W_seq_k fun K93 k93 => ?_
          refine W_region [8] rfl (Ops_step (R_assign rfl) rfl rfl ?_)
          refine Ops_nil ?_
          refine then_n (k93 _ _ ?_)
          clear k93 K93
          refine W_ret ?_
          refine then_ret ?_
          clear k84 K84
          refine ⟨_, ⟨_, _, rfl, rfl, rfl⟩, ?_⟩
          exact ⟨false, _, _, rfl, hI, h⟩
         ·
          replace h := h.2 hc92_
          refine W_skip ?_
          refine then_n (k84 _ _ ?_)
          clear k84 K84
          refine ex_ h fun J94_ hr94_ h => ?_
          refine W_seq_join [] [] (fun vals_ w2 => ∃  (L H : Gh), vals_ = [] ∧ J94_ ∧ Inv [] G w L H w2 ∧ Le L85_ L ∧ Le H85_ H ∧ True) (fun B_ b_ => ?_) (fun B_ b_ => ?_)
          ·
           simp only [e_, Nat.reduceAdd, Nat.reduceBEq] at b_
           subst b_
           clear hr94_
           have hll94_ := Le.refl L85_
           have hhh94_ := Le.refl H85_
           refine W_seq_k fun K95 k95 => ?_
           refine W_region [88, 89, 90] rfl (Ops_step (R_move rfl) rfl rfl (Ops_step (R_len Try.underlying22 rfl rfl) rfl rfl (Ops_step (R_move rfl) rfl rfl ?_)))
           refine Ops_nil ?_
           refine then_n (k95 _ _ ?_)
           clear k95 K95
           refine W_block ?_
           refine Exists.elim h fun I96_ h => Exists.elim h fun n96_ h => ?_
           have h0_ := h.1
           have hs96_ := h.2
           clear h
           refine W_loopB [13, 15, 88, 89] [90] (fun m vals_ w2 => ∃ (x90_96 : Int) (yo1_43b_96 : journal_Journal) (Ao1_43b_96_1 : Option Addr) (co1_43b_96_1 : Nat) (yo2_43b_96 : List (Int × Int)) (yo1_42_96 : disk_Disk) (Ao1_42_96_1 : Option Addr) (co1_42_96_1 : Nat) (Ao1_42_96_2 : Option Addr) (co1_42_96_2 : Nat) (Ao1_42_96_3 : Option Addr) (co1_42_96_3 : Nat) (L H : Gh), vals_ = [vi x90_96] ∧ I96_ m x90_96 yo1_43b_96 yo2_43b_96 yo1_42_96 ∧ Inv [] G w L H w2 ∧ Le L85_ L ∧ Le H85_ H ∧ Tok H w2 o1_43b 46 ([.slice Ao1_43b_96_1 yo1_43b_96.book_.l_.length co1_43b_96_1, .map (some o2_43b), .pointer (some ⟨o1_42, 0, none⟩), vi yo1_43b_96.gen_, vi yo1_43b_96.place_]) ∧ yo1_43b_96.book_.l_.length ≤ co1_43b_96_1 ∧ Sl H Ao1_43b_96_1 yo1_43b_96.book_.l_ ∧ MTok H H w2 o2_43b yo2_43b_96 ∧ Tok H w2 o1_42 53 ([.slice Ao1_42_96_1 yo1_42_96.files_.e0_.length co1_42_96_1, .slice Ao1_42_96_2 yo1_42_96.files_.e1_.length co1_42_96_2, .slice Ao1_42_96_3 yo1_42_96.files_.e2_.length co1_42_96_3, vi yo1_42_96.room_, .bool yo1_42_96.off_, .bool yo1_42_96.armed_, vi yo1_42_96.left_]) ∧ yo1_42_96.files_.e0_.length ≤ co1_42_96_1 ∧ Sl H Ao1_42_96_1 yo1_42_96.files_.e0_ ∧ yo1_42_96.files_.e1_.length ≤ co1_42_96_2 ∧ Sl H Ao1_42_96_2 yo1_42_96.files_.e1_ ∧ yo1_42_96.files_.e2_.length ≤ co1_42_96_3 ∧ Sl H Ao1_42_96_3 yo1_42_96.files_.e2_ ∧ True) n96_ _ rfl ⟨0, y43b_o1, A43b_o1_1, c43b_o1_1, y43b_o2, y43b_o0, A43b_o0_1, c43b_o0_1, A43b_o0_2, c43b_o0_2, A43b_o0_3, c43b_o0_3, _, _, rfl, h0_, hI, Le.refl _, Le.refl _, ht43b_o1, hc43b_o1_1, hs43b_o1_1, ht43b_o2, ht43b_o0, hc43b_o0_1, hs43b_o0_1, hc43b_o0_2, hs43b_o0_2, hc43b_o0_3, hs43b_o0_3, trivial⟩ fun B_ b_ => ?_
           clear h0_
           simp only [e_, Nat.reduceAdd, Nat.reduceBEq] at b_
           subst b_
           rintro m96_ _ w96_ ⟨x90_96, yo1_43b_96, Ao1_43b_96_1, co1_43b_96_1, yo2_43b_96, yo1_42_96, Ao1_42_96_1, co1_42_96_1, Ao1_42_96_2, co1_42_96_2, Ao1_42_96_3, co1_42_96_3, L96_, H96_, rfl, hJ96_, hI96_, hll96_, hhh96_, hto1_43b_96, hco1_43b_96_1, hso1_43b_96_1, hto2_43b_96, hto1_42_96, hco1_42_96_1, hso1_42_96_1, hco1_42_96_2, hso1_42_96_2, hco1_42_96_3, hso1_42_96_3, -⟩
           replace hI := hI96_
           clear hI96_
           have h := hs96_ m96_ x90_96 yo1_43b_96 yo2_43b_96 yo1_42_96 hJ96_
           clear hs96_ hJ96_
           replace hs3 := hs3.up hhh96_
           replace hll94_ := hll94_.trans hll96_
           replace hhh94_ := hhh94_.trans hhh96_
           refine W_seq_k fun K97 k97 => ?_
           refine W_region [91] rfl (Ops_step (R_lss rfl rfl) rfl rfl ?_)
           refine Ops_nil ?_
           refine then_n (k97 _ _ ?_)
           clear k97 K97
           refine W_seq_k fun K98 k98 => ?_
           refine W_if rfl (fun hc99_ => ?_) (fun hc99_ => ?_)
           ·
            replace h := h.1 hc99_
            refine W_skip ?_
            refine then_n (k98 _ _ ?_)
            clear k98 K98
            refine W_seq_k fun K100 k100 => ?_
            refine W_block ?_
            refine W_seq_k fun K101 k101 => ?_
            refine W_region [92, 93, 17, none] rfl ?_
            refine ex_ h fun x102_ hx102_ h => ?_
            have ha102_ := (Sl.atN (n := 4) rfl (by decide) hs3 hx102_).1
            refine Exists.elim (Sl.atN (n := 4) rfl (by decide) hs3 hx102_).2 fun l102_ hA102_ => ?_
            have hr102_ := hA102_.1
            have hg102_ := hA102_.2
            clear hA102_
            refine Ops_step (R_indexSl Try.underlying22 sz31 rfl rfl hx102_.1 hx102_.lt ha102_) rfl rfl ?_
            obtain ⟨A102_1, c102_1, rfl, ⟨hc102_1, hs102_1⟩⟩ := hr102_
            refine Ops_step (R_loadCs (cs := [vi x102_.Op_, vi x102_.Label_, vi x102_.N_, .slice A102_1 x102_.B_.length c102_1]) ag31 sz31 rfl (fun j_ v_ hv_ => hI.st _ _ (hg102_ j_ v_ hv_))) rfl rfl ?_
            have hI0_ := hI
            refine Ops_to (R_alloc zr31) rfl rfl ?_
            rintro _ w103_ ⟨b103_, rfl, hb103_, hB103_, hF103_⟩
            replace hI := hI.fr0 hF103_
            replace hto1_43b_96 := hto1_43b_96.fr0 hF103_
            replace hto2_43b_96 := hto2_43b_96.fr0 hF103_
            replace hto1_42_96 := hto1_42_96.fr0 hF103_
            have ht103_ : Tok H96_ _ b103_ 31 ([vi 0, vi 0, vi 0, .slice none 0 0]) := ⟨hB103_.to rfl, Out.ge hI0_.st (Nat.le_of_eq hb103_.symm)⟩
            have hge_b103_ : w.heap.size ≤ b103_ := hb103_ ▸ hI0_.size
            clear hB103_ hb103_ hI0_ hF103_
            refine Ops_to0 (R_storeN sz31 rfl rfl rfl ht103_.blk (Nat.le_of_ble_eq_true rfl) rfl) rfl ?_
            rintro _ w104_ ⟨hB104_, hF104_⟩
            replace hI := hI.tok hF104_ (out1 ht103_.out) (new1 hge_b103_)
            replace hto1_43b_96 := hto1_43b_96.fr hF104_ (hto1_43b_96.apart ht103_ (by decide))
            replace hto2_43b_96 := hto2_43b_96.fr hF104_ (hto2_43b_96.neT ht103_)
            replace hto1_42_96 := hto1_42_96.fr hF104_ (hto1_42_96.apart ht103_ (by decide))
            replace ht103_ : Tok H96_ _ b103_ 31 ([vi x102_.Op_, vi x102_.Label_, vi x102_.N_, .slice A102_1 x102_.B_.length c102_1]) := ⟨hB104_, ht103_.out⟩
            clear hF104_ hB104_
            refine Ops_nil ?_
            refine then_n (k101 _ _ ?_)
            clear k101 K101
            refine ex_ h fun J105_ hr105_ h => ?_
            refine W_seq_join [13, 15, 88, 89, 90] [120] (fun vals_ w2 => ∃ (x120_105 : Bool) (yo1_43b_105 : journal_Journal) (Ao1_43b_105_1 : Option Addr) (co1_43b_105_1 : Nat) (yo2_43b_105 : List (Int × Int)) (yo1_42_105 : disk_Disk) (Ao1_42_105_1 : Option Addr) (co1_42_105_1 : Nat) (Ao1_42_105_2 : Option Addr) (co1_42_105_2 : Nat) (Ao1_42_105_3 : Option Addr) (co1_42_105_3 : Nat) (L H : Gh), vals_ = [.bool x120_105] ∧ J105_ x120_105 yo1_43b_105 yo2_43b_105 yo1_42_105 ∧ Inv [] G w L H w2 ∧ Le L96_ L ∧ Le H96_ H ∧ Tok H w2 o1_43b 46 ([.slice Ao1_43b_105_1 yo1_43b_105.book_.l_.length co1_43b_105_1, .map (some o2_43b), .pointer (some ⟨o1_42, 0, none⟩), vi yo1_43b_105.gen_, vi yo1_43b_105.place_]) ∧ yo1_43b_105.book_.l_.length ≤ co1_43b_105_1 ∧ Sl H Ao1_43b_105_1 yo1_43b_105.book_.l_ ∧ MTok H H w2 o2_43b yo2_43b_105 ∧ Tok H w2 o1_42 53 ([.slice Ao1_42_105_1 yo1_42_105.files_.e0_.length co1_42_105_1, .slice Ao1_42_105_2 yo1_42_105.files_.e1_.length co1_42_105_2, .slice Ao1_42_105_3 yo1_42_105.files_.e2_.length co1_42_105_3, vi yo1_42_105.room_, .bool yo1_42_105.off_, .bool yo1_42_105.armed_, vi yo1_42_105.left_]) ∧ yo1_42_105.files_.e0_.length ≤ co1_42_105_1 ∧ Sl H Ao1_42_105_1 yo1_42_105.files_.e0_ ∧ yo1_42_105.files_.e1_.length ≤ co1_42_105_2 ∧ Sl H Ao1_42_105_2 yo1_42_105.files_.e1_ ∧ yo1_42_105.files_.e2_.length ≤ co1_42_105_3 ∧ Sl H Ao1_42_105_3 yo1_42_105.files_.e2_ ∧ True) (fun B_ b_ => ?_) (fun B_ b_ => ?_)
            ·
             simp only [e_, Nat.reduceAdd, Nat.reduceBEq] at b_
             subst b_
             clear hr105_
             have hll105_ := Le.refl L96_
             have hhh105_ := Le.refl H96_
             refine W_drawF [94, 95, 96, 97, 98, 99, 100, 101, 102, 103, 104, 105, 106, 107, 108, 109, 110, 111, 112, 113, 114, 115, 116, 117, 118, 119, 120] [(0, true), (1, true), (2, true), (3, true), (4, true), (5, true), (6, true), (7, true), (8, true), (9, true), (11, true), (12, true), (13, true), (14, true), (15, true), (10, false), (16, false), (17, true), (18, true), (19, true), (21, true), (20, false), (22, false), (23, false), (24, true), (25, true), (26, true)] TJmAgain.hm rfl (by kernel_rfl) fun ops106_ w106_ hops106_ hF106_ => ?_
             replace hI := hI.fr0 hF106_
             replace hto1_43b_96 := hto1_43b_96.fr0 hF106_
             replace hto2_43b_96 := hto2_43b_96.fr0 hF106_
             replace hto1_42_96 := hto1_42_96.fr0 hF106_
             replace ht103_ := ht103_.fr0 hF106_
             clear hF106_
             refine HSp (R_fieldAddr fo31_0 rfl) rfl rfl ?_
             refine HS_loadB (v := vi x102_.Op_) ag3 rfl ht103_.blk rfl rfl rfl ?_
             refine HSp (R_and rfl rfl (andI_wrap _ _)) rfl rfl (HSp (R_lss rfl rfl) rfl rfl (HSp (R_move rfl) rfl rfl ?_))
             refine HS_split 98 rfl (fun hg107_ => ?_) (fun hg107_ => ?_)
             ·
              replace h := h.1 hg107_
              refine HSp (R_move rfl) rfl rfl (HSp (R_fieldAddr fo31_1 rfl) rfl rfl ?_)
              refine HS_loadB (v := vi x102_.Label_) ag3 rfl ht103_.blk rfl rfl rfl ?_
              refine HSp (R_fieldAddr fo31_3 rfl) rfl rfl ?_
              refine HS_loadB (v := .slice A102_1 x102_.B_.length c102_1) ag29 rfl ht103_.blk rfl rfl rfl ?_
              refine HSp (R_move rfl) rfl rfl (HSp (R_fieldAddr fo31_1 rfl) rfl rfl ?_)
              refine HS_loadB (v := vi x102_.Label_) ag3 rfl ht103_.blk rfl rfl rfl ?_
              refine HSp (R_fieldAddr fo31_3 rfl) rfl rfl ?_
              refine HS_loadB (v := .slice A102_1 x102_.B_.length c102_1) ag29 rfl ht103_.blk rfl rfl rfl ?_
              refine HS_call [15, 13] _ rfl (by rw [hops106_]; kernel_rfl) (C_func bd15 rfl) rfl rfl ?_
              refine (journal_Journal_Put_v1_ok (x1 := x102_.Label_) (x2 := x102_.B_) hI.st (hg.up hI.le) hc102_1 hs102_1 h).mono ?_
              rintro _ w108_ ⟨r108_0, L108_, H108_, rfl, hI108_, h⟩
              refine Exists.elim (hI.call hI108_ (by simp)) fun L1080_ h108_ => ?_
              have hz108_ := hI.size
              replace hI := h108_.1
              have u108_ := h108_.2.1
              have hl108_ := h108_.2.2
              clear h108_
              replace hs3 := hs3.up u108_.hh
              replace hll94_ := hll94_.trans u108_.ll
              replace hhh94_ := hhh94_.trans u108_.hh
              replace hto1_43b_96 := hto1_43b_96.up u108_ (by simp)
              replace hso1_43b_96_1 := hso1_43b_96_1.up u108_.hh
              replace hto2_43b_96 := hto2_43b_96.up u108_.hh u108_ (by simp)
              replace hto1_42_96 := hto1_42_96.up u108_ (by simp)
              replace hso1_42_96_1 := hso1_42_96_1.up u108_.hh
              replace hso1_42_96_2 := hso1_42_96_2.up u108_.hh
              replace hso1_42_96_3 := hso1_42_96_3.up u108_.hh
              replace hll96_ := hll96_.trans u108_.ll
              replace hhh96_ := hhh96_.trans u108_.hh
              replace hs102_1 := hs102_1.up u108_.hh
              replace ht103_ := ht103_.up u108_ (by simp)
              replace hll105_ := hll105_.trans u108_.ll
              replace hhh105_ := hhh105_.trans u108_.hh
              clear hI108_ u108_ hl108_
              refine ⟨_, rfl, ⟨(ht103_.blk.at_ rfl), (ht103_.blk.at_ rfl), trivial⟩, ?_⟩
              refine HS_call [] _ rfl (by rw [hops106_]; kernel_rfl) (C_func bd15 rfl) rfl rfl ?_
              refine (journal_Journal_Put_ok (x1 := x102_.Label_) (x2 := x102_.B_) (z0 := yo1_43b_96) (z1 := yo2_43b_96) (z2 := yo1_42_96) hI.st (hg.up hI.le) hto2_43b_96 hto1_42_96 hco1_42_96_1 hso1_42_96_1 hco1_42_96_2 hso1_42_96_2 hco1_42_96_3 hso1_42_96_3 hto1_43b_96 hco1_43b_96_1 hso1_43b_96_1 hc102_1 hs102_1 h).mono ?_
              rintro _ w109_ ⟨r109_0, y109_o0, A109_o0_1, c109_o0_1, y109_o1, y109_o2, A109_o2_1, c109_o2_1, A109_o2_2, c109_o2_2, A109_o2_3, c109_o2_3, L109_, H109_, rfl, hI109_, ht109_o0, hc109_o0_1, hs109_o0_1, ht109_o1, ht109_o2, hc109_o2_1, hs109_o2_1, hc109_o2_2, hs109_o2_2, hc109_o2_3, hs109_o2_3, h⟩
              refine Exists.elim (hI.call hI109_ (memG hge_o1_43b (memG hge_o2_43b (memG hge_o1_42 memN)))) fun L1090_ h109_ => ?_
              have hz109_ := hI.size
              replace hI := h109_.1
              have u109_ := h109_.2.1
              have hl109_ := h109_.2.2
              clear h109_
              replace hs3 := hs3.up u109_.hh
              replace hll94_ := hll94_.trans u109_.ll
              replace hhh94_ := hhh94_.trans u109_.hh
              replace hso1_43b_96_1 := hso1_43b_96_1.up u109_.hh
              replace hso1_42_96_1 := hso1_42_96_1.up u109_.hh
              replace hso1_42_96_2 := hso1_42_96_2.up u109_.hh
              replace hso1_42_96_3 := hso1_42_96_3.up u109_.hh
              replace hll96_ := hll96_.trans u109_.ll
              replace hhh96_ := hhh96_.trans u109_.hh
              replace hs102_1 := hs102_1.up u109_.hh
              replace ht103_ := ht103_.up u109_ (niA (ht103_.apart hto1_43b_96 (by decide)) (niA (ht103_.neM hto2_43b_96) (niA (ht103_.apart hto1_42_96 (by decide)) List.not_mem_nil)))
              replace hll105_ := hll105_.trans u109_.ll
              replace hhh105_ := hhh105_.trans u109_.hh
              clear hto1_43b_96
              clear hto2_43b_96
              clear hto1_42_96
              clear hI109_ u109_ hl109_
              refine ⟨_, rfl, trivial, ?_⟩
              refine HSp (R_neq rfl rfl) rfl rfl (HSp (R_move rfl) rfl rfl ?_)
              refine HS_split 112 rfl (fun hg110_ => ?_) (fun hg110_ => ?_)
              ·
               replace h := h.1 hg110_
               refine HS_pass rfl rfl ?_
               refine HS_pass rfl rfl ?_
               refine HS_passL rfl rfl ?_
               refine HS_passL rfl rfl ?_
               refine HS_passL rfl rfl ?_
               refine HS_pass rfl rfl ?_
               refine HSp (R_pick_true rfl rfl) rfl rfl (HSp (R_pick_true rfl rfl) rfl rfl ?_)
               refine HS_nil ?_
               clear hops106_
               refine then_n ?_
               exact ⟨_, rfl, ⟨true, y109_o0, A109_o0_1, c109_o0_1, y109_o1, y109_o2, A109_o2_1, c109_o2_1, A109_o2_2, c109_o2_2, A109_o2_3, c109_o2_3, _, _, rfl, h, hI, hll105_, hhh105_, ht109_o0, hc109_o0_1, hs109_o0_1, ht109_o1, ht109_o2, hc109_o2_1, hs109_o2_1, hc109_o2_2, hs109_o2_2, hc109_o2_3, hs109_o2_3, trivial⟩, ⟨rfl, rfl, rfl, rfl, rfl, trivial⟩⟩
              ·
               replace h := h.2 hg110_
               refine HSp (R_move rfl) rfl rfl (HSp (R_move rfl) rfl rfl ?_)
               refine HS_call [] _ rfl (by rw [hops106_]; kernel_rfl) (C_func bd16 rfl) rfl rfl ?_
               refine (sealskinlaw06_records_v1_ok  hI.st (hg.up hI.le)  h).mono ?_
               rintro _ w111_ ⟨A111_0, c111_0, r111_0, L111_, H111_, rfl, hI111_, ho111_0, h⟩
               refine Exists.elim (hI.call hI111_ (by simp)) fun L1110_ h111_ => ?_
               have hz111_ := hI.size
               replace hI := h111_.1
               have u111_ := h111_.2.1
               have hl111_ := h111_.2.2
               clear h111_
               replace hs3 := hs3.up u111_.hh
               replace hll94_ := hll94_.trans u111_.ll
               replace hhh94_ := hhh94_.trans u111_.hh
               replace hll96_ := hll96_.trans u111_.ll
               replace hhh96_ := hhh96_.trans u111_.hh
               replace hs102_1 := hs102_1.up u111_.hh
               replace ht103_ := ht103_.up u111_ (by simp)
               replace hll105_ := hll105_.trans u111_.ll
               replace hhh105_ := hhh105_.trans u111_.hh
               replace ht109_o0 := ht109_o0.up u111_ (by simp)
               replace hs109_o0_1 := hs109_o0_1.up u111_.hh
               replace ht109_o1 := ht109_o1.up u111_.hh u111_ (by simp)
               replace ht109_o2 := ht109_o2.up u111_ (by simp)
               replace hs109_o2_1 := hs109_o2_1.up u111_.hh
               replace hs109_o2_2 := hs109_o2_2.up u111_.hh
               replace hs109_o2_3 := hs109_o2_3.up u111_.hh
               replace ho111_0 := OwnS.back ho111_0 hz111_ hl111_ (Le.refl _)
               clear hI111_ u111_ hl111_
               refine ⟨_, rfl, trivial, ?_⟩
               refine Exists.elim (ho111_0.freeze hI) fun L112_ h112_ => Exists.elim h112_ fun H112_ h112_ => ?_
               replace hI := h112_.1
               have u112_ := h112_.2.1
               have hs112_ := h112_.2.2.1 (Le.refl _)
               have hc112_ := ho111_0.cap
               replace hs3 := hs3.up u112_.hh
               replace hll94_ := hll94_.trans u112_.ll
               replace hhh94_ := hhh94_.trans u112_.hh
               replace hll96_ := hll96_.trans u112_.ll
               replace hhh96_ := hhh96_.trans u112_.hh
               replace hs102_1 := hs102_1.up u112_.hh
               replace ht103_ := ht103_.up u112_ (ht103_.sep ho111_0 (by decide))
               replace hll105_ := hll105_.trans u112_.ll
               replace hhh105_ := hhh105_.trans u112_.hh
               replace ht109_o0 := ht109_o0.up u112_ (ht109_o0.sep ho111_0 (by decide))
               replace hs109_o0_1 := hs109_o0_1.up u112_.hh
               replace ht109_o1 := ht109_o1.up u112_.hh u112_ (ht109_o1.neO ho111_0)
               replace ht109_o2 := ht109_o2.up u112_ (ht109_o2.sep ho111_0 (by decide))
               replace hs109_o2_1 := hs109_o2_1.up u112_.hh
               replace hs109_o2_2 := hs109_o2_2.up u112_.hh
               replace hs109_o2_3 := hs109_o2_3.up u112_.hh
               clear h112_ u112_ ho111_0
               refine HS_call [] _ rfl (by rw [hops106_]; kernel_rfl) (C_func bd16 rfl) rfl rfl ?_
               refine (sealskinlaw06_records_ok (z0 := y109_o0) (z1 := y109_o1) (z2 := y109_o2) hI.st (hg.up hI.le) ht109_o1 ht109_o2 hc109_o2_1 hs109_o2_1 hc109_o2_2 hs109_o2_2 hc109_o2_3 hs109_o2_3 ht109_o0 hc109_o0_1 hs109_o0_1 h).mono ?_
               rintro _ w113_ ⟨A113_0, c113_0, r113_0, L113_, H113_, rfl, hI113_, ho113_0, h⟩
               refine Exists.elim (hI.call hI113_ (by simp)) fun L1130_ h113_ => ?_
               have hz113_ := hI.size
               replace hI := h113_.1
               have u113_ := h113_.2.1
               have hl113_ := h113_.2.2
               clear h113_
               replace hs3 := hs3.up u113_.hh
               replace hll94_ := hll94_.trans u113_.ll
               replace hhh94_ := hhh94_.trans u113_.hh
               replace hll96_ := hll96_.trans u113_.ll
               replace hhh96_ := hhh96_.trans u113_.hh
               replace hs102_1 := hs102_1.up u113_.hh
               replace ht103_ := ht103_.up u113_ (by simp)
               replace hll105_ := hll105_.trans u113_.ll
               replace hhh105_ := hhh105_.trans u113_.hh
               replace ht109_o0 := ht109_o0.up u113_ (by simp)
               replace hs109_o0_1 := hs109_o0_1.up u113_.hh
               replace ht109_o1 := ht109_o1.up u113_.hh u113_ (by simp)
               replace ht109_o2 := ht109_o2.up u113_ (by simp)
               replace hs109_o2_1 := hs109_o2_1.up u113_.hh
               replace hs109_o2_2 := hs109_o2_2.up u113_.hh
               replace hs109_o2_3 := hs109_o2_3.up u113_.hh
               replace hs112_ := hs112_.up u113_.ll
               replace ho113_0 := OwnS.back ho113_0 hz113_ hl113_ (Le.refl _)
               clear hI113_ u113_ hl113_
               refine ⟨_, rfl, trivial, ?_⟩
               refine Exists.elim (ho113_0.freeze hI) fun L114_ h114_ => Exists.elim h114_ fun H114_ h114_ => ?_
               replace hI := h114_.1
               have u114_ := h114_.2.1
               have hs114_ := h114_.2.2.1 (Le.refl _)
               have hc114_ := ho113_0.cap
               replace hs3 := hs3.up u114_.hh
               replace hll94_ := hll94_.trans u114_.ll
               replace hhh94_ := hhh94_.trans u114_.hh
               replace hll96_ := hll96_.trans u114_.ll
               replace hhh96_ := hhh96_.trans u114_.hh
               replace hs102_1 := hs102_1.up u114_.hh
               replace ht103_ := ht103_.up u114_ (ht103_.sep ho113_0 (by decide))
               replace hll105_ := hll105_.trans u114_.ll
               replace hhh105_ := hhh105_.trans u114_.hh
               replace ht109_o0 := ht109_o0.up u114_ (ht109_o0.sep ho113_0 (by decide))
               replace hs109_o0_1 := hs109_o0_1.up u114_.hh
               replace ht109_o1 := ht109_o1.up u114_.hh u114_ (ht109_o1.neO ho113_0)
               replace ht109_o2 := ht109_o2.up u114_ (ht109_o2.sep ho113_0 (by decide))
               replace hs109_o2_1 := hs109_o2_1.up u114_.hh
               replace hs109_o2_2 := hs109_o2_2.up u114_.hh
               replace hs109_o2_3 := hs109_o2_3.up u114_.hh
               replace hs112_ := hs112_.up u114_.ll
               clear h114_ u114_ ho113_0
               refine HS_call [] _ rfl (by rw [hops106_]; kernel_rfl) (C_func bd23 rfl) rfl rfl ?_
               refine (slices_Equal_sealskinref06_Record_sealskinref06_Record_ok (x0 := r111_0) (x1 := r113_0) hI.st (hg.up hI.le) hc112_ (hs112_.up hI.sub) hc114_ (hs114_.up hI.sub) h).mono ?_
               rintro _ w115_ ⟨r115_0, L115_, H115_, rfl, hI115_, h⟩
               refine Exists.elim (hI.call hI115_ (by simp)) fun L1150_ h115_ => ?_
               have hz115_ := hI.size
               replace hI := h115_.1
               have u115_ := h115_.2.1
               have hl115_ := h115_.2.2
               clear h115_
               replace hs3 := hs3.up u115_.hh
               replace hll94_ := hll94_.trans u115_.ll
               replace hhh94_ := hhh94_.trans u115_.hh
               replace hll96_ := hll96_.trans u115_.ll
               replace hhh96_ := hhh96_.trans u115_.hh
               replace hs102_1 := hs102_1.up u115_.hh
               replace ht103_ := ht103_.up u115_ (by simp)
               replace hll105_ := hll105_.trans u115_.ll
               replace hhh105_ := hhh105_.trans u115_.hh
               replace ht109_o0 := ht109_o0.up u115_ (by simp)
               replace hs109_o0_1 := hs109_o0_1.up u115_.hh
               replace ht109_o1 := ht109_o1.up u115_.hh u115_ (by simp)
               replace ht109_o2 := ht109_o2.up u115_ (by simp)
               replace hs109_o2_1 := hs109_o2_1.up u115_.hh
               replace hs109_o2_2 := hs109_o2_2.up u115_.hh
               replace hs109_o2_3 := hs109_o2_3.up u115_.hh
               replace hs112_ := hs112_.up u115_.ll
               replace hs114_ := hs114_.up u115_.ll
               clear hI115_ u115_ hl115_
               refine ⟨_, rfl, trivial, ?_⟩
               refine HSp (R_not rfl) rfl rfl (HSp (R_pick_false rfl rfl) rfl rfl (HSp (R_pick_true rfl rfl) rfl rfl ?_))
               refine HS_nil ?_
               clear hops106_
               refine then_n ?_
               exact ⟨_, rfl, ⟨(!r115_0), y109_o0, A109_o0_1, c109_o0_1, y109_o1, y109_o2, A109_o2_1, c109_o2_1, A109_o2_2, c109_o2_2, A109_o2_3, c109_o2_3, _, _, rfl, h, hI, hll105_, hhh105_, ht109_o0, hc109_o0_1, hs109_o0_1, ht109_o1, ht109_o2, hc109_o2_1, hs109_o2_1, hc109_o2_2, hs109_o2_2, hc109_o2_3, hs109_o2_3, trivial⟩, ⟨rfl, rfl, rfl, rfl, rfl, trivial⟩⟩
             ·
              replace h := h.2 hg107_
              refine HS_pass rfl rfl ?_
              refine HS_pass rfl rfl ?_
              refine HS_pass rfl rfl ?_
              refine HS_pass rfl rfl ?_
              refine HS_pass rfl rfl ?_
              refine HS_pass rfl rfl ?_
              refine HS_pass rfl rfl ?_
              refine HS_pass rfl rfl ?_
              refine HS_pass rfl rfl ?_
              refine HS_pass rfl rfl ?_
              refine HS_passL rfl rfl ?_
              refine HS_passL rfl rfl ?_
              refine HS_pass rfl rfl ?_
              refine HS_pass rfl rfl ?_
              refine HS_passU rfl rfl ?_
              refine HS_passU rfl rfl ?_
              refine HS_passLU rfl rfl ?_
              refine HS_passLU rfl rfl ?_
              refine HS_passLU rfl rfl ?_
              refine HS_passU rfl rfl ?_
              refine HS_pass rfl rfl ?_
              refine HSp (R_pick_false rfl rfl) rfl rfl ?_
              refine HS_nil ?_
              clear hops106_
              refine then_n ?_
              exact ⟨_, rfl, ⟨false, yo1_43b_96, Ao1_43b_96_1, co1_43b_96_1, yo2_43b_96, yo1_42_96, Ao1_42_96_1, co1_42_96_1, Ao1_42_96_2, co1_42_96_2, Ao1_42_96_3, co1_42_96_3, _, _, rfl, h, hI, hll105_, hhh105_, hto1_43b_96, hco1_43b_96_1, hso1_43b_96_1, hto2_43b_96, hto1_42_96, hco1_42_96_1, hso1_42_96_1, hco1_42_96_2, hso1_42_96_2, hco1_42_96_3, hso1_42_96_3, trivial⟩, ⟨rfl, rfl, rfl, rfl, rfl, trivial⟩⟩
            ·
             simp only [e_, Nat.reduceAdd, Nat.reduceBEq] at b_
             subst b_
             clear h
             rintro _ w105_ ⟨x120_105, yo1_43b_105, Ao1_43b_105_1, co1_43b_105_1, yo2_43b_105, yo1_42_105, Ao1_42_105_1, co1_42_105_1, Ao1_42_105_2, co1_42_105_2, Ao1_42_105_3, co1_42_105_3, L105_, H105_, rfl, hJ105_, hI105_, hll105_, hhh105_, hto1_43b_105, hco1_43b_105_1, hso1_43b_105_1, hto2_43b_105, hto1_42_105, hco1_42_105_1, hso1_42_105_1, hco1_42_105_2, hso1_42_105_2, hco1_42_105_3, hso1_42_105_3, -⟩
             replace hI := hI105_
             clear hI105_
             have h := hr105_ x120_105 yo1_43b_105 yo2_43b_105 yo1_42_105 hJ105_
             clear hr105_ hJ105_
             replace hs3 := hs3.up hhh105_
             replace hll94_ := hll94_.trans hll105_
             replace hhh94_ := hhh94_.trans hhh105_
             replace hll96_ := hll96_.trans hll105_
             replace hhh96_ := hhh96_.trans hhh105_
             refine W_cond rfl (fun hc116_ => ?_) (fun hc116_ => ?_)
             ·
              replace h := h.1 hc116_
              refine W_seq_k fun K117 k117 => ?_
              refine W_region [8] rfl (Ops_step (R_assign rfl) rfl rfl ?_)
              refine Ops_nil ?_
              refine then_n (k117 _ _ ?_)
              clear k117 K117
              refine W_keepB [8] fun B_ b_ => ?_
              simp only [e_, Nat.reduceAdd, Nat.reduceBEq] at b_
              subst b_
              refine W_ret ?_
              refine block_ret ?_
              refine then_ret ?_
              clear k100 K100
              refine then_ret ?_
              refine block_ret ?_
              refine then_ret ?_
              refine ⟨_, ⟨_, _, rfl, rfl, rfl⟩, ?_⟩
              exact ⟨false, _, _, rfl, hI, h⟩
             ·
              replace h := h.2 hc116_
              refine W_skip ?_
              refine block_n ?_
              refine then_n (k100 _ _ ?_)
              clear k100 K100
              refine W_region [121, 90] rfl ?_
              have hk119_ := h.1
              replace h := h.2
              refine Ops_step (R_add rfl rfl (wI hk119_.1 hk119_.2)) rfl rfl (Ops_step (R_move rfl) rfl rfl ?_)
              refine Ops_nil ?_
              refine then_n ?_
              exact h.elim fun m_ h => ⟨m_, _, h.1, rfl, ⟨(x90_96 + 1), yo1_43b_105, Ao1_43b_105_1, co1_43b_105_1, yo2_43b_105, yo1_42_105, Ao1_42_105_1, co1_42_105_1, Ao1_42_105_2, co1_42_105_2, Ao1_42_105_3, co1_42_105_3, _, _, rfl, h.2, hI, hll96_, hhh96_, hto1_43b_105, hco1_43b_105_1, hso1_43b_105_1, hto2_43b_105, hto1_42_105, hco1_42_105_1, hso1_42_105_1, hco1_42_105_2, hso1_42_105_2, hco1_42_105_3, hso1_42_105_3, trivial⟩, ⟨rfl, rfl, rfl, rfl, trivial⟩⟩
           ·
            replace h := h.2 hc99_
            refine W_exit ?_
            refine then_exit ?_
            clear k98 K98
            refine then_exit ?_
            refine block_exit ?_
            refine then_n ?_
            exact ⟨_, rfl, ⟨_, _, rfl, h, hI, hll94_, hhh94_, trivial⟩, trivial⟩
          ·
           simp only [e_, Nat.reduceAdd, Nat.reduceBEq] at b_
           subst b_
           clear h
           rintro _ w94_ ⟨L94_, H94_, rfl, hJ94_, hI94_, hll94_, hhh94_, -⟩
           replace hI := hI94_
           clear hI94_
           have h := hr94_ hJ94_
           clear hr94_ hJ94_
           refine W_seq_k fun K120 k120 => ?_
           refine W_region [122, 8] rfl ?_
           refine Ops_call (C_func bd12 rfl) rfl rfl ?_
           refine (sealskinlaw06_awake_ok  hI.st (hg.up hI.le)  h).mono ?_
           rintro _ w121_ ⟨r121_0, L121_, H121_, rfl, hI121_, h⟩
           refine Exists.elim (hI.call hI121_ (by simp)) fun L1210_ h121_ => ?_
           have hz121_ := hI.size
           replace hI := h121_.1
           have u121_ := h121_.2.1
           have hl121_ := h121_.2.2
           clear h121_
           clear hI121_ u121_ hl121_
           refine ⟨_, rfl, ?_⟩
           refine Ops_step (R_assign rfl) rfl rfl ?_
           refine Ops_nil ?_
           refine then_n (k120 _ _ ?_)
           clear k120 K120
           refine W_ret ?_
           refine ⟨_, ⟨_, _, rfl, rfl, rfl⟩, ?_⟩
           exact ⟨r121_0, _, _, rfl, hI, h⟩
     ·
      have hge0_o1_31b := hge_o1_31b
      replace hge_o1_31b := Nat.le_trans hI.size hge_o1_31b
      have hge0_o2_31b := hge_o2_31b
      replace hge_o2_31b := Nat.le_trans hI.size hge_o2_31b
      refine Exists.elim (hI.call hI31b_ (new1 hge_o0_13b)) fun L31b0_ h31b_ => ?_
      have hz31b_ := hI.size
      replace hI := h31b_.1
      have u31b_ := h31b_.2.1
      have hl31b_ := h31b_.2.2
      clear h31b_
      replace hs3 := hs3.up u31b_.hh
      replace hso0_13b_15_1 := hso0_13b_15_1.up u31b_.hh
      replace hso0_13b_15_2 := hso0_13b_15_2.up u31b_.hh
      replace hso0_13b_15_3 := hso0_13b_15_3.up u31b_.hh
      clear hto0_13b_15
      clear hI31b_ u31b_ hl31b_
      refine ⟨_, rfl, ?_⟩
      refine Ops_step (R_move rfl) rfl rfl ?_
      refine Ops_step (R_extract (v := .pointer (some ⟨o1_31b, 0, none⟩)) rfl rfl) rfl rfl ?_
      refine Ops_step (R_extract (v := vi r31b_1) rfl rfl) rfl rfl ?_
      refine Ops_step (R_assign rfl) rfl rfl (Ops_step (R_assign rfl) rfl rfl ?_)
      refine Ops_nil ?_
      refine then_n (k30 _ _ ?_)
      clear k30 K30
      refine W_seq_k fun K122 k122 => ?_
      refine W_seq_k fun K123 k123 => ?_
      refine W_region [61, 62] rfl (Ops_step (R_move rfl) rfl rfl (Ops_step (R_neq rfl rfl) rfl rfl ?_))
      refine Ops_nil ?_
      refine then_n (k123 _ _ ?_)
      clear k123 K123
      refine W_keepB [3, 9, 13, 14, 62] fun B_ b_ => ?_
      simp only [e_, Nat.reduceAdd, Nat.reduceBEq] at b_
      subst b_
      refine W_if rfl (fun hc125_ => ?_) (fun hc125_ => ?_)
      ·
       replace h := h.1 hc125_
       refine W_seq_k fun K126 k126 => ?_
       refine W_region [63, 64, 65, 66, 67, 68, 69, 70, 71, 8] rfl (Ops_step (R_move rfl) rfl rfl (Ops_step (R_eql rfl rfl) rfl rfl (Ops_step (R_move rfl) rfl rfl ?_)))
       refine Ops_split 65 rfl (fun hg127_ => ?_) (fun hg127_ => ?_)
       ·
        replace h := h.1 hg127_
        refine Ops_step (R_move rfl) rfl rfl (Ops_step (R_ptrNil Try.underlying26 rfl rfl) rfl rfl (Ops_step (R_pick_true rfl rfl) rfl rfl (Ops_step (R_move rfl) rfl rfl (Ops_pass rfl rfl ?_))))
        refine Ops_step (R_pick_false rfl rfl) rfl rfl (Ops_step (R_assign rfl) rfl rfl ?_)
        refine Ops_nil ?_
        refine then_n (k126 _ _ ?_)
        clear k126 K126
        refine W_keepB [8] fun B_ b_ => ?_
        simp only [e_, Nat.reduceAdd, Nat.reduceBEq] at b_
        subst b_
        refine W_ret ?_
        refine then_ret ?_
        clear k122 K122
        refine ⟨_, ⟨_, _, rfl, rfl, rfl⟩, ?_⟩
        exact ⟨false, _, _, rfl, hI, h⟩
       ·
        replace h := h.2 hg127_
        refine Ops_pass rfl rfl (Ops_pass rfl rfl (Ops_step (R_pick_false rfl rfl) rfl rfl (Ops_step (R_move rfl) rfl rfl (Ops_pass rfl rfl ?_))))
        refine Ops_step (R_pick_false rfl rfl) rfl rfl (Ops_step (R_assign rfl) rfl rfl ?_)
        refine Ops_nil ?_
        refine then_n (k126 _ _ ?_)
        clear k126 K126
        refine W_keepB [8] fun B_ b_ => ?_
        simp only [e_, Nat.reduceAdd, Nat.reduceBEq] at b_
        subst b_
        refine W_ret ?_
        refine then_ret ?_
        clear k122 K122
        refine ⟨_, ⟨_, _, rfl, rfl, rfl⟩, ?_⟩
        exact ⟨false, _, _, rfl, hI, h⟩
      ·
       replace h := h.2 hc125_
       refine W_skip ?_
       refine then_n (k122 _ _ ?_)
       clear k122 K122
       refine W_seq_k fun K130 k130 => ?_
       refine W_region [73, 74, 75, 72, 76, 77, 15, 14] rfl (Ops_step (R_move rfl) rfl rfl ?_)
       refine Ops_call (C_func bd30 rfl) rfl rfl ?_
       refine (disk_Disk_Clone_ok (z0 := y31b_o0) hI.st (hg.up hI.le) ht31b_o0 hc31b_o0_1 hs31b_o0_1 hc31b_o0_2 hs31b_o0_2 hc31b_o0_3 hs31b_o0_3 h).mono ?_
       have hlo131_o0_13b := ht31b_o0.blk.lt
       rintro _ w131_ ⟨o1_131, y131_o1, A131_o1_1, c131_o1_1, A131_o1_2, c131_o1_2, A131_o1_3, c131_o1_3, L131_, H131_, rfl, hI131_, hge_o1_131, ht131_o1, hc131_o1_1, hs131_o1_1, hc131_o1_2, hs131_o1_2, hc131_o1_3, hs131_o1_3, h⟩
       have hge0_o1_131 := hge_o1_131
       replace hge_o1_131 := Nat.le_trans hI.size hge_o1_131
       refine Exists.elim (hI.call hI131_ (by simp)) fun L1310_ h131_ => ?_
       have hz131_ := hI.size
       replace hI := h131_.1
       have u131_ := h131_.2.1
       have hl131_ := h131_.2.2
       clear h131_
       replace hs3 := hs3.up u131_.hh
       replace ht31b_o0 := ht31b_o0.up u131_ (by simp)
       replace hs31b_o0_1 := hs31b_o0_1.up u131_.hh
       replace hs31b_o0_2 := hs31b_o0_2.up u131_.hh
       replace hs31b_o0_3 := hs31b_o0_3.up u131_.hh
       replace ht31b_o1 := ht31b_o1.up u131_ (by simp)
       replace hs31b_o1_1 := hs31b_o1_1.up u131_.hh
       replace ht31b_o2 := ht31b_o2.up u131_.hh u131_ (by simp)
       have hneo1_131_o0_13b : o0_13b ≠ o1_131 := fun e_ => absurd hlo131_o0_13b (by omega)
       clear hI131_ u131_ hl131_
       refine ⟨_, rfl, ?_⟩
       refine Ops_call (C_func bd20 rfl) rfl rfl ?_
       refine (journal_Open_ok (z0 := y131_o1) hI.st (hg.up hI.le) ht131_o1 hc131_o1_1 hs131_o1_1 hc131_o1_2 hs131_o1_2 hc131_o1_3 hs131_o1_3 h).mono ?_
       have hlo132_o1_31b := ht31b_o1.blk.lt
       have hlo132_o2_31b := ht31b_o2.lt
       rintro _ w132_ (⟨r132a_1, y132a_o0, A132a_o0_1, c132a_o0_1, A132a_o0_2, c132a_o0_2, A132a_o0_3, c132a_o0_3, L132a_, H132a_, rfl, hI132a_, ht132a_o0, hc132a_o0_1, hs132a_o0_1, hc132a_o0_2, hs132a_o0_2, hc132a_o0_3, hs132a_o0_3, h⟩ | ⟨r132b_1, y132b_o0, A132b_o0_1, c132b_o0_1, A132b_o0_2, c132b_o0_2, A132b_o0_3, c132b_o0_3, o1_132b, y132b_o1, A132b_o1_1, c132b_o1_1, o2_132b, y132b_o2, L132b_, H132b_, rfl, hI132b_, ht132b_o0, hc132b_o0_1, hs132b_o0_1, hc132b_o0_2, hs132b_o0_2, hc132b_o0_3, hs132b_o0_3, hge_o1_132b, ht132b_o1, hc132b_o1_1, hs132b_o1_1, hge_o2_132b, ht132b_o2, h⟩)
       ·
        refine Exists.elim (hI.call hI132a_ (new1 hge_o1_131)) fun L132a0_ h132a_ => ?_
        have hz132a_ := hI.size
        replace hI := h132a_.1
        have u132a_ := h132a_.2.1
        have hl132a_ := h132a_.2.2
        clear h132a_
        replace hs3 := hs3.up u132a_.hh
        replace ht31b_o0 := ht31b_o0.up u132a_ (ne1 hneo1_131_o0_13b)
        replace hs31b_o0_1 := hs31b_o0_1.up u132a_.hh
        replace hs31b_o0_2 := hs31b_o0_2.up u132a_.hh
        replace hs31b_o0_3 := hs31b_o0_3.up u132a_.hh
        replace ht31b_o1 := ht31b_o1.up u132a_ (ht31b_o1.apart ht131_o1 (by decide))
        replace hs31b_o1_1 := hs31b_o1_1.up u132a_.hh
        replace ht31b_o2 := ht31b_o2.up u132a_.hh u132a_ (ht31b_o2.neT ht131_o1)
        replace hs131_o1_1 := hs131_o1_1.up u132a_.hh
        replace hs131_o1_2 := hs131_o1_2.up u132a_.hh
        replace hs131_o1_3 := hs131_o1_3.up u132a_.hh
        clear ht131_o1
        clear hI132a_ u132a_ hl132a_
        refine ⟨_, rfl, ?_⟩
        refine Ops_step (R_move rfl) rfl rfl ?_
        refine Ops_step (R_extract (v := .pointer none) rfl rfl) rfl rfl ?_
        refine Ops_step (R_extract (v := vi r132a_1) rfl rfl) rfl rfl ?_
        refine Ops_step (R_assign rfl) rfl rfl (Ops_step (R_assign rfl) rfl rfl ?_)
        refine Ops_nil ?_
        refine then_n (k130 _ _ ?_)
        clear k130 K130
        refine W_keepB [3, 13, 14, 15] fun B_ b_ => ?_
        simp only [e_, Nat.reduceAdd, Nat.reduceBEq] at b_
        subst b_
        refine W_seq_k fun K134 k134 => ?_
        refine ex_ h fun J135_ hr135_ h => ?_
        refine W_seq_join [3, 13, 15] [87] (fun vals_ w2 => ∃ (x87_135 : Bool) (L H : Gh), vals_ = [.bool x87_135] ∧ J135_ x87_135 ∧ Inv [] G w L H w2 ∧ Le L132a0_ L ∧ Le H132a_ H ∧ Tok H w2 o0_13b 53 ([.slice A31b_o0_1 y31b_o0.files_.e0_.length c31b_o0_1, .slice A31b_o0_2 y31b_o0.files_.e1_.length c31b_o0_2, .slice A31b_o0_3 y31b_o0.files_.e2_.length c31b_o0_3, vi y31b_o0.room_, .bool y31b_o0.off_, .bool y31b_o0.armed_, vi y31b_o0.left_]) ∧ Tok H w2 o1_31b 46 ([.slice A31b_o1_1 y31b_o1.book_.l_.length c31b_o1_1, .map (some o2_31b), .pointer (some ⟨o0_13b, 0, none⟩), vi y31b_o1.gen_, vi y31b_o1.place_]) ∧ MTok H H w2 o2_31b y31b_o2 ∧ True) (fun B_ b_ => ?_) (fun B_ b_ => ?_)
        ·
         simp only [e_, Nat.reduceAdd, Nat.reduceBEq] at b_
         subst b_
         clear hr135_
         have hll135_ := Le.refl L132a0_
         have hhh135_ := Le.refl H132a_
         refine W_region [78, 79, 80, 81, 82, 83, 84, 85, 86, 87] rfl (Ops_step (R_move rfl) rfl rfl (Ops_step (R_neq rfl rfl) rfl rfl (Ops_step (R_move rfl) rfl rfl ?_)))
         refine Ops_split 80 rfl (fun hg136_ => ?_) (fun hg136_ => ?_)
         ·
          replace h := h.1 hg136_
          refine Ops_pass rfl rfl (Ops_pass rfl rfl (Ops_pass rfl rfl (Ops_pass rfl rfl (Ops_pass rfl rfl ?_))))
          refine Ops_pass rfl rfl (Ops_step (R_pick_true rfl rfl) rfl rfl ?_)
          refine Ops_nil ?_
          refine then_n ?_
          exact ⟨_, rfl, ⟨true, _, _, rfl, h, hI, hll135_, hhh135_, ht31b_o0, ht31b_o1, ht31b_o2, trivial⟩, ⟨rfl, rfl, rfl, trivial⟩⟩
         ·
          replace h := h.2 hg136_
          refine Ops_step (R_move rfl) rfl rfl ?_
          refine Ops_call (C_func bd16 rfl) rfl rfl ?_
          refine (sealskinlaw06_records_ok (z0 := y31b_o1) (z1 := y31b_o2) (z2 := y31b_o0) hI.st (hg.up hI.le) ht31b_o2 ht31b_o0 hc31b_o0_1 hs31b_o0_1 hc31b_o0_2 hs31b_o0_2 hc31b_o0_3 hs31b_o0_3 ht31b_o1 hc31b_o1_1 hs31b_o1_1 h).mono ?_
          rintro _ w137_ ⟨A137_0, c137_0, r137_0, L137_, H137_, rfl, hI137_, ho137_0, h⟩
          refine Exists.elim (hI.call hI137_ (by simp)) fun L1370_ h137_ => ?_
          have hz137_ := hI.size
          replace hI := h137_.1
          have u137_ := h137_.2.1
          have hl137_ := h137_.2.2
          clear h137_
          replace hs3 := hs3.up u137_.hh
          replace ht31b_o0 := ht31b_o0.up u137_ (by simp)
          replace hs31b_o0_1 := hs31b_o0_1.up u137_.hh
          replace hs31b_o0_2 := hs31b_o0_2.up u137_.hh
          replace hs31b_o0_3 := hs31b_o0_3.up u137_.hh
          replace ht31b_o1 := ht31b_o1.up u137_ (by simp)
          replace hs31b_o1_1 := hs31b_o1_1.up u137_.hh
          replace ht31b_o2 := ht31b_o2.up u137_.hh u137_ (by simp)
          replace hll135_ := hll135_.trans u137_.ll
          replace hhh135_ := hhh135_.trans u137_.hh
          replace ho137_0 := OwnS.back ho137_0 hz137_ hl137_ (Le.refl _)
          clear hI137_ u137_ hl137_
          refine ⟨_, rfl, ?_⟩
          refine Exists.elim (ho137_0.freeze hI) fun L138_ h138_ => Exists.elim h138_ fun H138_ h138_ => ?_
          replace hI := h138_.1
          have u138_ := h138_.2.1
          have hs138_ := h138_.2.2.1 (Le.refl _)
          have hc138_ := ho137_0.cap
          replace hs3 := hs3.up u138_.hh
          replace ht31b_o0 := ht31b_o0.up u138_ (ht31b_o0.sep ho137_0 (by decide))
          replace hs31b_o0_1 := hs31b_o0_1.up u138_.hh
          replace hs31b_o0_2 := hs31b_o0_2.up u138_.hh
          replace hs31b_o0_3 := hs31b_o0_3.up u138_.hh
          replace ht31b_o1 := ht31b_o1.up u138_ (ht31b_o1.sep ho137_0 (by decide))
          replace hs31b_o1_1 := hs31b_o1_1.up u138_.hh
          replace ht31b_o2 := ht31b_o2.up u138_.hh u138_ (ht31b_o2.neO ho137_0)
          replace hll135_ := hll135_.trans u138_.ll
          replace hhh135_ := hhh135_.trans u138_.hh
          clear h138_ u138_ ho137_0
          refine Ops_step (R_move rfl) rfl rfl ?_
          refine Ops_call (C_func bd16 rfl) rfl rfl ?_
          refine (sealskinlaw06_records_v1_ok  hI.st (hg.up hI.le)  h).mono ?_
          rintro _ w139_ ⟨A139_0, c139_0, r139_0, L139_, H139_, rfl, hI139_, ho139_0, h⟩
          refine Exists.elim (hI.call hI139_ (by simp)) fun L1390_ h139_ => ?_
          have hz139_ := hI.size
          replace hI := h139_.1
          have u139_ := h139_.2.1
          have hl139_ := h139_.2.2
          clear h139_
          replace hs3 := hs3.up u139_.hh
          replace ht31b_o0 := ht31b_o0.up u139_ (by simp)
          replace hs31b_o0_1 := hs31b_o0_1.up u139_.hh
          replace hs31b_o0_2 := hs31b_o0_2.up u139_.hh
          replace hs31b_o0_3 := hs31b_o0_3.up u139_.hh
          replace ht31b_o1 := ht31b_o1.up u139_ (by simp)
          replace hs31b_o1_1 := hs31b_o1_1.up u139_.hh
          replace ht31b_o2 := ht31b_o2.up u139_.hh u139_ (by simp)
          replace hll135_ := hll135_.trans u139_.ll
          replace hhh135_ := hhh135_.trans u139_.hh
          replace hs138_ := hs138_.up u139_.ll
          replace ho139_0 := OwnS.back ho139_0 hz139_ hl139_ (Le.refl _)
          clear hI139_ u139_ hl139_
          refine ⟨_, rfl, ?_⟩
          refine Exists.elim (ho139_0.freeze hI) fun L140_ h140_ => Exists.elim h140_ fun H140_ h140_ => ?_
          replace hI := h140_.1
          have u140_ := h140_.2.1
          have hs140_ := h140_.2.2.1 (Le.refl _)
          have hc140_ := ho139_0.cap
          replace hs3 := hs3.up u140_.hh
          replace ht31b_o0 := ht31b_o0.up u140_ (ht31b_o0.sep ho139_0 (by decide))
          replace hs31b_o0_1 := hs31b_o0_1.up u140_.hh
          replace hs31b_o0_2 := hs31b_o0_2.up u140_.hh
          replace hs31b_o0_3 := hs31b_o0_3.up u140_.hh
          replace ht31b_o1 := ht31b_o1.up u140_ (ht31b_o1.sep ho139_0 (by decide))
          replace hs31b_o1_1 := hs31b_o1_1.up u140_.hh
          replace ht31b_o2 := ht31b_o2.up u140_.hh u140_ (ht31b_o2.neO ho139_0)
          replace hll135_ := hll135_.trans u140_.ll
          replace hhh135_ := hhh135_.trans u140_.hh
          replace hs138_ := hs138_.up u140_.ll
          clear h140_ u140_ ho139_0
          refine Ops_call (C_func bd23 rfl) rfl rfl ?_
          refine (slices_Equal_sealskinref06_Record_sealskinref06_Record_ok (x0 := r137_0) (x1 := r139_0) hI.st (hg.up hI.le) hc138_ (hs138_.up hI.sub) hc140_ (hs140_.up hI.sub) h).mono ?_
          rintro _ w141_ ⟨r141_0, L141_, H141_, rfl, hI141_, h⟩
          refine Exists.elim (hI.call hI141_ (by simp)) fun L1410_ h141_ => ?_
          have hz141_ := hI.size
          replace hI := h141_.1
          have u141_ := h141_.2.1
          have hl141_ := h141_.2.2
          clear h141_
          replace hs3 := hs3.up u141_.hh
          replace ht31b_o0 := ht31b_o0.up u141_ (by simp)
          replace hs31b_o0_1 := hs31b_o0_1.up u141_.hh
          replace hs31b_o0_2 := hs31b_o0_2.up u141_.hh
          replace hs31b_o0_3 := hs31b_o0_3.up u141_.hh
          replace ht31b_o1 := ht31b_o1.up u141_ (by simp)
          replace hs31b_o1_1 := hs31b_o1_1.up u141_.hh
          replace ht31b_o2 := ht31b_o2.up u141_.hh u141_ (by simp)
          replace hll135_ := hll135_.trans u141_.ll
          replace hhh135_ := hhh135_.trans u141_.hh
          clear hI141_ u141_ hl141_
          refine ⟨_, rfl, ?_⟩
          refine Ops_step (R_not rfl) rfl rfl (Ops_step (R_pick_false rfl rfl) rfl rfl ?_)
          refine Ops_nil ?_
          refine then_n ?_
          exact ⟨_, rfl, ⟨(!r141_0), _, _, rfl, h, hI, hll135_, hhh135_, ht31b_o0, ht31b_o1, ht31b_o2, trivial⟩, ⟨rfl, rfl, rfl, trivial⟩⟩
        ·
         simp only [e_, Nat.reduceAdd, Nat.reduceBEq] at b_
         subst b_
         clear h
         clear ht31b_o0
         clear ht31b_o1
         clear ht31b_o2
         rintro _ w135_ ⟨x87_135, L135_, H135_, rfl, hJ135_, hI135_, hll135_, hhh135_, ht31b_o0, ht31b_o1, ht31b_o2, -⟩
         replace hI := hI135_
         clear hI135_
         have h := hr135_ x87_135 hJ135_
         clear hr135_ hJ135_
         replace hs3 := hs3.up hhh135_
         replace hs31b_o0_1 := hs31b_o0_1.up hhh135_
         replace hs31b_o0_2 := hs31b_o0_2.up hhh135_
         replace hs31b_o0_3 := hs31b_o0_3.up hhh135_
         replace hs31b_o1_1 := hs31b_o1_1.up hhh135_
         refine W_cond rfl (fun hc142_ => ?_) (fun hc142_ => ?_)
         ·
          replace h := h.1 hc142_
          refine W_seq_k fun K143 k143 => ?_
          refine W_region [8] rfl (Ops_step (R_assign rfl) rfl rfl ?_)
          refine Ops_nil ?_
          refine then_n (k143 _ _ ?_)
          clear k143 K143
          refine W_ret ?_
          refine then_ret ?_
          clear k134 K134
          refine ⟨_, ⟨_, _, rfl, rfl, rfl⟩, ?_⟩
          exact ⟨false, _, _, rfl, hI, h⟩
         ·
          replace h := h.2 hc142_
          refine W_skip ?_
          refine then_n (k134 _ _ ?_)
          clear k134 K134
          refine ex_ h fun J144_ hr144_ h => ?_
          refine W_seq_join [] [] (fun vals_ w2 => ∃  (L H : Gh), vals_ = [] ∧ J144_ ∧ Inv [] G w L H w2 ∧ Le L135_ L ∧ Le H135_ H ∧ True) (fun B_ b_ => ?_) (fun B_ b_ => ?_)
          ·
           simp only [e_, Nat.reduceAdd, Nat.reduceBEq] at b_
           subst b_
           clear hr144_
           have hll144_ := Le.refl L135_
           have hhh144_ := Le.refl H135_
           refine W_seq_k fun K145 k145 => ?_
           refine W_region [88, 89, 90] rfl (Ops_step (R_move rfl) rfl rfl (Ops_step (R_len Try.underlying22 rfl rfl) rfl rfl (Ops_step (R_move rfl) rfl rfl ?_)))
           refine Ops_nil ?_
           refine then_n (k145 _ _ ?_)
           clear k145 K145
           refine W_block ?_
           refine Exists.elim h fun I146_ h => Exists.elim h fun n146_ h => ?_
           have h0_ := h.1
           have hs146_ := h.2
           clear h
           refine W_loopB [13, 15, 88, 89] [90] (fun m vals_ w2 => ∃ (x90_146 : Int) (yo1_31b_146 : journal_Journal) (Ao1_31b_146_1 : Option Addr) (co1_31b_146_1 : Nat) (yo2_31b_146 : List (Int × Int)) (yo0_13b_146 : disk_Disk) (Ao0_13b_146_1 : Option Addr) (co0_13b_146_1 : Nat) (Ao0_13b_146_2 : Option Addr) (co0_13b_146_2 : Nat) (Ao0_13b_146_3 : Option Addr) (co0_13b_146_3 : Nat) (L H : Gh), vals_ = [vi x90_146] ∧ I146_ m x90_146 yo1_31b_146 yo2_31b_146 yo0_13b_146 ∧ Inv [] G w L H w2 ∧ Le L135_ L ∧ Le H135_ H ∧ Tok H w2 o1_31b 46 ([.slice Ao1_31b_146_1 yo1_31b_146.book_.l_.length co1_31b_146_1, .map (some o2_31b), .pointer (some ⟨o0_13b, 0, none⟩), vi yo1_31b_146.gen_, vi yo1_31b_146.place_]) ∧ yo1_31b_146.book_.l_.length ≤ co1_31b_146_1 ∧ Sl H Ao1_31b_146_1 yo1_31b_146.book_.l_ ∧ MTok H H w2 o2_31b yo2_31b_146 ∧ Tok H w2 o0_13b 53 ([.slice Ao0_13b_146_1 yo0_13b_146.files_.e0_.length co0_13b_146_1, .slice Ao0_13b_146_2 yo0_13b_146.files_.e1_.length co0_13b_146_2, .slice Ao0_13b_146_3 yo0_13b_146.files_.e2_.length co0_13b_146_3, vi yo0_13b_146.room_, .bool yo0_13b_146.off_, .bool yo0_13b_146.armed_, vi yo0_13b_146.left_]) ∧ yo0_13b_146.files_.e0_.length ≤ co0_13b_146_1 ∧ Sl H Ao0_13b_146_1 yo0_13b_146.files_.e0_ ∧ yo0_13b_146.files_.e1_.length ≤ co0_13b_146_2 ∧ Sl H Ao0_13b_146_2 yo0_13b_146.files_.e1_ ∧ yo0_13b_146.files_.e2_.length ≤ co0_13b_146_3 ∧ Sl H Ao0_13b_146_3 yo0_13b_146.files_.e2_ ∧ True) n146_ _ rfl ⟨0, y31b_o1, A31b_o1_1, c31b_o1_1, y31b_o2, y31b_o0, A31b_o0_1, c31b_o0_1, A31b_o0_2, c31b_o0_2, A31b_o0_3, c31b_o0_3, _, _, rfl, h0_, hI, Le.refl _, Le.refl _, ht31b_o1, hc31b_o1_1, hs31b_o1_1, ht31b_o2, ht31b_o0, hc31b_o0_1, hs31b_o0_1, hc31b_o0_2, hs31b_o0_2, hc31b_o0_3, hs31b_o0_3, trivial⟩ fun B_ b_ => ?_
           clear h0_
           simp only [e_, Nat.reduceAdd, Nat.reduceBEq] at b_
           subst b_
           rintro m146_ _ w146_ ⟨x90_146, yo1_31b_146, Ao1_31b_146_1, co1_31b_146_1, yo2_31b_146, yo0_13b_146, Ao0_13b_146_1, co0_13b_146_1, Ao0_13b_146_2, co0_13b_146_2, Ao0_13b_146_3, co0_13b_146_3, L146_, H146_, rfl, hJ146_, hI146_, hll146_, hhh146_, hto1_31b_146, hco1_31b_146_1, hso1_31b_146_1, hto2_31b_146, hto0_13b_146, hco0_13b_146_1, hso0_13b_146_1, hco0_13b_146_2, hso0_13b_146_2, hco0_13b_146_3, hso0_13b_146_3, -⟩
           replace hI := hI146_
           clear hI146_
           have h := hs146_ m146_ x90_146 yo1_31b_146 yo2_31b_146 yo0_13b_146 hJ146_
           clear hs146_ hJ146_
           replace hs3 := hs3.up hhh146_
           replace hll144_ := hll144_.trans hll146_
           replace hhh144_ := hhh144_.trans hhh146_
           refine W_seq_k fun K147 k147 => ?_
           refine W_region [91] rfl (Ops_step (R_lss rfl rfl) rfl rfl ?_)
           refine Ops_nil ?_
           refine then_n (k147 _ _ ?_)
           clear k147 K147
           refine W_seq_k fun K148 k148 => ?_
           refine W_if rfl (fun hc149_ => ?_) (fun hc149_ => ?_)
           ·
            replace h := h.1 hc149_
            refine W_skip ?_
            refine then_n (k148 _ _ ?_)
            clear k148 K148
            refine W_seq_k fun K150 k150 => ?_
            refine W_block ?_
            refine W_seq_k fun K151 k151 => ?_
            refine W_region [92, 93, 17, none] rfl ?_
            refine ex_ h fun x152_ hx152_ h => ?_
            have ha152_ := (Sl.atN (n := 4) rfl (by decide) hs3 hx152_).1
            refine Exists.elim (Sl.atN (n := 4) rfl (by decide) hs3 hx152_).2 fun l152_ hA152_ => ?_
            have hr152_ := hA152_.1
            have hg152_ := hA152_.2
            clear hA152_
            refine Ops_step (R_indexSl Try.underlying22 sz31 rfl rfl hx152_.1 hx152_.lt ha152_) rfl rfl ?_
            obtain ⟨A152_1, c152_1, rfl, ⟨hc152_1, hs152_1⟩⟩ := hr152_
            refine Ops_step (R_loadCs (cs := [vi x152_.Op_, vi x152_.Label_, vi x152_.N_, .slice A152_1 x152_.B_.length c152_1]) ag31 sz31 rfl (fun j_ v_ hv_ => hI.st _ _ (hg152_ j_ v_ hv_))) rfl rfl ?_
            have hI0_ := hI
            refine Ops_to (R_alloc zr31) rfl rfl ?_
            rintro _ w153_ ⟨b153_, rfl, hb153_, hB153_, hF153_⟩
            replace hI := hI.fr0 hF153_
            replace hto1_31b_146 := hto1_31b_146.fr0 hF153_
            replace hto2_31b_146 := hto2_31b_146.fr0 hF153_
            replace hto0_13b_146 := hto0_13b_146.fr0 hF153_
            have ht153_ : Tok H146_ _ b153_ 31 ([vi 0, vi 0, vi 0, .slice none 0 0]) := ⟨hB153_.to rfl, Out.ge hI0_.st (Nat.le_of_eq hb153_.symm)⟩
            have hge_b153_ : w.heap.size ≤ b153_ := hb153_ ▸ hI0_.size
            clear hB153_ hb153_ hI0_ hF153_
            refine Ops_to0 (R_storeN sz31 rfl rfl rfl ht153_.blk (Nat.le_of_ble_eq_true rfl) rfl) rfl ?_
            rintro _ w154_ ⟨hB154_, hF154_⟩
            replace hI := hI.tok hF154_ (out1 ht153_.out) (new1 hge_b153_)
            replace hto1_31b_146 := hto1_31b_146.fr hF154_ (hto1_31b_146.apart ht153_ (by decide))
            replace hto2_31b_146 := hto2_31b_146.fr hF154_ (hto2_31b_146.neT ht153_)
            replace hto0_13b_146 := hto0_13b_146.fr hF154_ (hto0_13b_146.apart ht153_ (by decide))
            replace ht153_ : Tok H146_ _ b153_ 31 ([vi x152_.Op_, vi x152_.Label_, vi x152_.N_, .slice A152_1 x152_.B_.length c152_1]) := ⟨hB154_, ht153_.out⟩
            clear hF154_ hB154_
            refine Ops_nil ?_
            refine then_n (k151 _ _ ?_)
            clear k151 K151
            refine ex_ h fun J155_ hr155_ h => ?_
            refine W_seq_join [13, 15, 88, 89, 90] [120] (fun vals_ w2 => ∃ (x120_155 : Bool) (yo1_31b_155 : journal_Journal) (Ao1_31b_155_1 : Option Addr) (co1_31b_155_1 : Nat) (yo2_31b_155 : List (Int × Int)) (yo0_13b_155 : disk_Disk) (Ao0_13b_155_1 : Option Addr) (co0_13b_155_1 : Nat) (Ao0_13b_155_2 : Option Addr) (co0_13b_155_2 : Nat) (Ao0_13b_155_3 : Option Addr) (co0_13b_155_3 : Nat) (L H : Gh), vals_ = [.bool x120_155] ∧ J155_ x120_155 yo1_31b_155 yo2_31b_155 yo0_13b_155 ∧ Inv [] G w L H w2 ∧ Le L146_ L ∧ Le H146_ H ∧ Tok H w2 o1_31b 46 ([.slice Ao1_31b_155_1 yo1_31b_155.book_.l_.length co1_31b_155_1, .map (some o2_31b), .pointer (some ⟨o0_13b, 0, none⟩), vi yo1_31b_155.gen_, vi yo1_31b_155.place_]) ∧ yo1_31b_155.book_.l_.length ≤ co1_31b_155_1 ∧ Sl H Ao1_31b_155_1 yo1_31b_155.book_.l_ ∧ MTok H H w2 o2_31b yo2_31b_155 ∧ Tok H w2 o0_13b 53 ([.slice Ao0_13b_155_1 yo0_13b_155.files_.e0_.length co0_13b_155_1, .slice Ao0_13b_155_2 yo0_13b_155.files_.e1_.length co0_13b_155_2, .slice Ao0_13b_155_3 yo0_13b_155.files_.e2_.length co0_13b_155_3, vi yo0_13b_155.room_, .bool yo0_13b_155.off_, .bool yo0_13b_155.armed_, vi yo0_13b_155.left_]) ∧ yo0_13b_155.files_.e0_.length ≤ co0_13b_155_1 ∧ Sl H Ao0_13b_155_1 yo0_13b_155.files_.e0_ ∧ yo0_13b_155.files_.e1_.length ≤ co0_13b_155_2 ∧ Sl H Ao0_13b_155_2 yo0_13b_155.files_.e1_ ∧ yo0_13b_155.files_.e2_.length ≤ co0_13b_155_3 ∧ Sl H Ao0_13b_155_3 yo0_13b_155.files_.e2_ ∧ True) (fun B_ b_ => ?_) (fun B_ b_ => ?_)
            ·
             simp only [e_, Nat.reduceAdd, Nat.reduceBEq] at b_
             subst b_
             clear hr155_
             have hll155_ := Le.refl L146_
             have hhh155_ := Le.refl H146_
             refine W_drawF [94, 95, 96, 97, 98, 99, 100, 101, 102, 103, 104, 105, 106, 107, 108, 109, 110, 111, 112, 113, 114, 115, 116, 117, 118, 119, 120] [(0, true), (1, true), (2, true), (3, true), (4, true), (5, true), (6, true), (7, true), (8, true), (9, true), (11, true), (12, true), (13, true), (14, true), (15, true), (10, false), (16, false), (17, true), (18, true), (19, true), (21, true), (20, false), (22, false), (23, false), (24, true), (25, true), (26, true)] TJmAgain.hm rfl (by kernel_rfl) fun ops156_ w156_ hops156_ hF156_ => ?_
             replace hI := hI.fr0 hF156_
             replace hto1_31b_146 := hto1_31b_146.fr0 hF156_
             replace hto2_31b_146 := hto2_31b_146.fr0 hF156_
             replace hto0_13b_146 := hto0_13b_146.fr0 hF156_
             replace ht153_ := ht153_.fr0 hF156_
             clear hF156_
             refine HSp (R_fieldAddr fo31_0 rfl) rfl rfl ?_
             refine HS_loadB (v := vi x152_.Op_) ag3 rfl ht153_.blk rfl rfl rfl ?_
             refine HSp (R_and rfl rfl (andI_wrap _ _)) rfl rfl (HSp (R_lss rfl rfl) rfl rfl (HSp (R_move rfl) rfl rfl ?_))
             refine HS_split 98 rfl (fun hg157_ => ?_) (fun hg157_ => ?_)
             ·
              replace h := h.1 hg157_
              refine HSp (R_move rfl) rfl rfl (HSp (R_fieldAddr fo31_1 rfl) rfl rfl ?_)
              refine HS_loadB (v := vi x152_.Label_) ag3 rfl ht153_.blk rfl rfl rfl ?_
              refine HSp (R_fieldAddr fo31_3 rfl) rfl rfl ?_
              refine HS_loadB (v := .slice A152_1 x152_.B_.length c152_1) ag29 rfl ht153_.blk rfl rfl rfl ?_
              refine HSp (R_move rfl) rfl rfl (HSp (R_fieldAddr fo31_1 rfl) rfl rfl ?_)
              refine HS_loadB (v := vi x152_.Label_) ag3 rfl ht153_.blk rfl rfl rfl ?_
              refine HSp (R_fieldAddr fo31_3 rfl) rfl rfl ?_
              refine HS_loadB (v := .slice A152_1 x152_.B_.length c152_1) ag29 rfl ht153_.blk rfl rfl rfl ?_
              refine HS_call [15, 13] _ rfl (by rw [hops156_]; kernel_rfl) (C_func bd15 rfl) rfl rfl ?_
              refine (journal_Journal_Put_ok (x1 := x152_.Label_) (x2 := x152_.B_) (z0 := yo1_31b_146) (z1 := yo2_31b_146) (z2 := yo0_13b_146) hI.st (hg.up hI.le) hto2_31b_146 hto0_13b_146 hco0_13b_146_1 hso0_13b_146_1 hco0_13b_146_2 hso0_13b_146_2 hco0_13b_146_3 hso0_13b_146_3 hto1_31b_146 hco1_31b_146_1 hso1_31b_146_1 hc152_1 hs152_1 h).mono ?_
              rintro _ w158_ ⟨r158_0, y158_o0, A158_o0_1, c158_o0_1, y158_o1, y158_o2, A158_o2_1, c158_o2_1, A158_o2_2, c158_o2_2, A158_o2_3, c158_o2_3, L158_, H158_, rfl, hI158_, ht158_o0, hc158_o0_1, hs158_o0_1, ht158_o1, ht158_o2, hc158_o2_1, hs158_o2_1, hc158_o2_2, hs158_o2_2, hc158_o2_3, hs158_o2_3, h⟩
              refine Exists.elim (hI.call hI158_ (memG hge_o1_31b (memG hge_o2_31b (memG hge_o0_13b memN)))) fun L1580_ h158_ => ?_
              have hz158_ := hI.size
              replace hI := h158_.1
              have u158_ := h158_.2.1
              have hl158_ := h158_.2.2
              clear h158_
              replace hs3 := hs3.up u158_.hh
              replace hll144_ := hll144_.trans u158_.ll
              replace hhh144_ := hhh144_.trans u158_.hh
              replace hso1_31b_146_1 := hso1_31b_146_1.up u158_.hh
              replace hso0_13b_146_1 := hso0_13b_146_1.up u158_.hh
              replace hso0_13b_146_2 := hso0_13b_146_2.up u158_.hh
              replace hso0_13b_146_3 := hso0_13b_146_3.up u158_.hh
              replace hll146_ := hll146_.trans u158_.ll
              replace hhh146_ := hhh146_.trans u158_.hh
              replace hs152_1 := hs152_1.up u158_.hh
              replace ht153_ := ht153_.up u158_ (niA (ht153_.apart hto1_31b_146 (by decide)) (niA (ht153_.neM hto2_31b_146) (niA (ht153_.apart hto0_13b_146 (by decide)) List.not_mem_nil)))
              replace hll155_ := hll155_.trans u158_.ll
              replace hhh155_ := hhh155_.trans u158_.hh
              clear hto1_31b_146
              clear hto2_31b_146
              clear hto0_13b_146
              clear hI158_ u158_ hl158_
              refine ⟨_, rfl, ⟨(ht153_.blk.at_ rfl), (ht153_.blk.at_ rfl), trivial⟩, ?_⟩
              refine HS_call [] _ rfl (by rw [hops156_]; kernel_rfl) (C_func bd15 rfl) rfl rfl ?_
              refine (journal_Journal_Put_v1_ok (x1 := x152_.Label_) (x2 := x152_.B_) hI.st (hg.up hI.le) hc152_1 hs152_1 h).mono ?_
              rintro _ w159_ ⟨r159_0, L159_, H159_, rfl, hI159_, h⟩
              refine Exists.elim (hI.call hI159_ (by simp)) fun L1590_ h159_ => ?_
              have hz159_ := hI.size
              replace hI := h159_.1
              have u159_ := h159_.2.1
              have hl159_ := h159_.2.2
              clear h159_
              replace hs3 := hs3.up u159_.hh
              replace hll144_ := hll144_.trans u159_.ll
              replace hhh144_ := hhh144_.trans u159_.hh
              replace hll146_ := hll146_.trans u159_.ll
              replace hhh146_ := hhh146_.trans u159_.hh
              replace hs152_1 := hs152_1.up u159_.hh
              replace ht153_ := ht153_.up u159_ (by simp)
              replace hll155_ := hll155_.trans u159_.ll
              replace hhh155_ := hhh155_.trans u159_.hh
              replace ht158_o0 := ht158_o0.up u159_ (by simp)
              replace hs158_o0_1 := hs158_o0_1.up u159_.hh
              replace ht158_o1 := ht158_o1.up u159_.hh u159_ (by simp)
              replace ht158_o2 := ht158_o2.up u159_ (by simp)
              replace hs158_o2_1 := hs158_o2_1.up u159_.hh
              replace hs158_o2_2 := hs158_o2_2.up u159_.hh
              replace hs158_o2_3 := hs158_o2_3.up u159_.hh
              clear hI159_ u159_ hl159_
              refine ⟨_, rfl, trivial, ?_⟩
              refine HSp (R_neq rfl rfl) rfl rfl (HSp (R_move rfl) rfl rfl ?_)
              refine HS_split 112 rfl (fun hg160_ => ?_) (fun hg160_ => ?_)
              ·
               replace h := h.1 hg160_
               refine HS_pass rfl rfl ?_
               refine HS_pass rfl rfl ?_
               refine HS_passL rfl rfl ?_
               refine HS_passL rfl rfl ?_
               refine HS_passL rfl rfl ?_
               refine HS_pass rfl rfl ?_
               refine HSp (R_pick_true rfl rfl) rfl rfl (HSp (R_pick_true rfl rfl) rfl rfl ?_)
               refine HS_nil ?_
               clear hops156_
               refine then_n ?_
               exact ⟨_, rfl, ⟨true, y158_o0, A158_o0_1, c158_o0_1, y158_o1, y158_o2, A158_o2_1, c158_o2_1, A158_o2_2, c158_o2_2, A158_o2_3, c158_o2_3, _, _, rfl, h, hI, hll155_, hhh155_, ht158_o0, hc158_o0_1, hs158_o0_1, ht158_o1, ht158_o2, hc158_o2_1, hs158_o2_1, hc158_o2_2, hs158_o2_2, hc158_o2_3, hs158_o2_3, trivial⟩, ⟨rfl, rfl, rfl, rfl, rfl, trivial⟩⟩
              ·
               replace h := h.2 hg160_
               refine HSp (R_move rfl) rfl rfl (HSp (R_move rfl) rfl rfl ?_)
               refine HS_call [] _ rfl (by rw [hops156_]; kernel_rfl) (C_func bd16 rfl) rfl rfl ?_
               refine (sealskinlaw06_records_ok (z0 := y158_o0) (z1 := y158_o1) (z2 := y158_o2) hI.st (hg.up hI.le) ht158_o1 ht158_o2 hc158_o2_1 hs158_o2_1 hc158_o2_2 hs158_o2_2 hc158_o2_3 hs158_o2_3 ht158_o0 hc158_o0_1 hs158_o0_1 h).mono ?_
               rintro _ w161_ ⟨A161_0, c161_0, r161_0, L161_, H161_, rfl, hI161_, ho161_0, h⟩
               refine Exists.elim (hI.call hI161_ (by simp)) fun L1610_ h161_ => ?_
               have hz161_ := hI.size
               replace hI := h161_.1
               have u161_ := h161_.2.1
               have hl161_ := h161_.2.2
               clear h161_
               replace hs3 := hs3.up u161_.hh
               replace hll144_ := hll144_.trans u161_.ll
               replace hhh144_ := hhh144_.trans u161_.hh
               replace hll146_ := hll146_.trans u161_.ll
               replace hhh146_ := hhh146_.trans u161_.hh
               replace hs152_1 := hs152_1.up u161_.hh
               replace ht153_ := ht153_.up u161_ (by simp)
               replace hll155_ := hll155_.trans u161_.ll
               replace hhh155_ := hhh155_.trans u161_.hh
               replace ht158_o0 := ht158_o0.up u161_ (by simp)
               replace hs158_o0_1 := hs158_o0_1.up u161_.hh
               replace ht158_o1 := ht158_o1.up u161_.hh u161_ (by simp)
               replace ht158_o2 := ht158_o2.up u161_ (by simp)
               replace hs158_o2_1 := hs158_o2_1.up u161_.hh
               replace hs158_o2_2 := hs158_o2_2.up u161_.hh
               replace hs158_o2_3 := hs158_o2_3.up u161_.hh
               replace ho161_0 := OwnS.back ho161_0 hz161_ hl161_ (Le.refl _)
               clear hI161_ u161_ hl161_
               refine ⟨_, rfl, trivial, ?_⟩
               refine Exists.elim (ho161_0.freeze hI) fun L162_ h162_ => Exists.elim h162_ fun H162_ h162_ => ?_
               replace hI := h162_.1
               have u162_ := h162_.2.1
               have hs162_ := h162_.2.2.1 (Le.refl _)
               have hc162_ := ho161_0.cap
               replace hs3 := hs3.up u162_.hh
               replace hll144_ := hll144_.trans u162_.ll
               replace hhh144_ := hhh144_.trans u162_.hh
               replace hll146_ := hll146_.trans u162_.ll
               replace hhh146_ := hhh146_.trans u162_.hh
               replace hs152_1 := hs152_1.up u162_.hh
               replace ht153_ := ht153_.up u162_ (ht153_.sep ho161_0 (by decide))
               replace hll155_ := hll155_.trans u162_.ll
               replace hhh155_ := hhh155_.trans u162_.hh
               replace ht158_o0 := ht158_o0.up u162_ (ht158_o0.sep ho161_0 (by decide))
               replace hs158_o0_1 := hs158_o0_1.up u162_.hh
               replace ht158_o1 := ht158_o1.up u162_.hh u162_ (ht158_o1.neO ho161_0)
               replace ht158_o2 := ht158_o2.up u162_ (ht158_o2.sep ho161_0 (by decide))
               replace hs158_o2_1 := hs158_o2_1.up u162_.hh
               replace hs158_o2_2 := hs158_o2_2.up u162_.hh
               replace hs158_o2_3 := hs158_o2_3.up u162_.hh
               clear h162_ u162_ ho161_0
               refine HS_call [] _ rfl (by rw [hops156_]; kernel_rfl) (C_func bd16 rfl) rfl rfl ?_
               refine (sealskinlaw06_records_v1_ok  hI.st (hg.up hI.le)  h).mono ?_
               rintro _ w163_ ⟨A163_0, c163_0, r163_0, L163_, H163_, rfl, hI163_, ho163_0, h⟩
               refine Exists.elim (hI.call hI163_ (by simp)) fun L1630_ h163_ => ?_
               have hz163_ := hI.size
               replace hI := h163_.1
               have u163_ := h163_.2.1
               have hl163_ := h163_.2.2
               clear h163_
               replace hs3 := hs3.up u163_.hh
               replace hll144_ := hll144_.trans u163_.ll
               replace hhh144_ := hhh144_.trans u163_.hh
               replace hll146_ := hll146_.trans u163_.ll
               replace hhh146_ := hhh146_.trans u163_.hh
               replace hs152_1 := hs152_1.up u163_.hh
               replace ht153_ := ht153_.up u163_ (by simp)
               replace hll155_ := hll155_.trans u163_.ll
               replace hhh155_ := hhh155_.trans u163_.hh
               replace ht158_o0 := ht158_o0.up u163_ (by simp)
               replace hs158_o0_1 := hs158_o0_1.up u163_.hh
               replace ht158_o1 := ht158_o1.up u163_.hh u163_ (by simp)
               replace ht158_o2 := ht158_o2.up u163_ (by simp)
               replace hs158_o2_1 := hs158_o2_1.up u163_.hh
               replace hs158_o2_2 := hs158_o2_2.up u163_.hh
               replace hs158_o2_3 := hs158_o2_3.up u163_.hh
               replace hs162_ := hs162_.up u163_.ll
               replace ho163_0 := OwnS.back ho163_0 hz163_ hl163_ (Le.refl _)
               clear hI163_ u163_ hl163_
               refine ⟨_, rfl, trivial, ?_⟩
               refine Exists.elim (ho163_0.freeze hI) fun L164_ h164_ => Exists.elim h164_ fun H164_ h164_ => ?_
               replace hI := h164_.1
               have u164_ := h164_.2.1
               have hs164_ := h164_.2.2.1 (Le.refl _)
               have hc164_ := ho163_0.cap
               replace hs3 := hs3.up u164_.hh
               replace hll144_ := hll144_.trans u164_.ll
               replace hhh144_ := hhh144_.trans u164_.hh
               replace hll146_ := hll146_.trans u164_.ll
               replace hhh146_ := hhh146_.trans u164_.hh
               replace hs152_1 := hs152_1.up u164_.hh
               replace ht153_ := ht153_.up u164_ (ht153_.sep ho163_0 (by decide))
               replace hll155_ := hll155_.trans u164_.ll
               replace hhh155_ := hhh155_.trans u164_.hh
               replace ht158_o0 := ht158_o0.up u164_ (ht158_o0.sep ho163_0 (by decide))
               replace hs158_o0_1 := hs158_o0_1.up u164_.hh
               replace ht158_o1 := ht158_o1.up u164_.hh u164_ (ht158_o1.neO ho163_0)
               replace ht158_o2 := ht158_o2.up u164_ (ht158_o2.sep ho163_0 (by decide))
               replace hs158_o2_1 := hs158_o2_1.up u164_.hh
               replace hs158_o2_2 := hs158_o2_2.up u164_.hh
               replace hs158_o2_3 := hs158_o2_3.up u164_.hh
               replace hs162_ := hs162_.up u164_.ll
               clear h164_ u164_ ho163_0
               refine HS_call [] _ rfl (by rw [hops156_]; kernel_rfl) (C_func bd23 rfl) rfl rfl ?_
               refine (slices_Equal_sealskinref06_Record_sealskinref06_Record_ok (x0 := r161_0) (x1 := r163_0) hI.st (hg.up hI.le) hc162_ (hs162_.up hI.sub) hc164_ (hs164_.up hI.sub) h).mono ?_
               rintro _ w165_ ⟨r165_0, L165_, H165_, rfl, hI165_, h⟩
               refine Exists.elim (hI.call hI165_ (by simp)) fun L1650_ h165_ => ?_
               have hz165_ := hI.size
               replace hI := h165_.1
               have u165_ := h165_.2.1
               have hl165_ := h165_.2.2
               clear h165_
               replace hs3 := hs3.up u165_.hh
               replace hll144_ := hll144_.trans u165_.ll
               replace hhh144_ := hhh144_.trans u165_.hh
               replace hll146_ := hll146_.trans u165_.ll
               replace hhh146_ := hhh146_.trans u165_.hh
               replace hs152_1 := hs152_1.up u165_.hh
               replace ht153_ := ht153_.up u165_ (by simp)
               replace hll155_ := hll155_.trans u165_.ll
               replace hhh155_ := hhh155_.trans u165_.hh
               replace ht158_o0 := ht158_o0.up u165_ (by simp)
               replace hs158_o0_1 := hs158_o0_1.up u165_.hh
               replace ht158_o1 := ht158_o1.up u165_.hh u165_ (by simp)
               replace ht158_o2 := ht158_o2.up u165_ (by simp)
               replace hs158_o2_1 := hs158_o2_1.up u165_.hh
               replace hs158_o2_2 := hs158_o2_2.up u165_.hh
               replace hs158_o2_3 := hs158_o2_3.up u165_.hh
               replace hs162_ := hs162_.up u165_.ll
               replace hs164_ := hs164_.up u165_.ll
               clear hI165_ u165_ hl165_
               refine ⟨_, rfl, trivial, ?_⟩
               refine HSp (R_not rfl) rfl rfl (HSp (R_pick_false rfl rfl) rfl rfl (HSp (R_pick_true rfl rfl) rfl rfl ?_))
               refine HS_nil ?_
               clear hops156_
               refine then_n ?_
               exact ⟨_, rfl, ⟨(!r165_0), y158_o0, A158_o0_1, c158_o0_1, y158_o1, y158_o2, A158_o2_1, c158_o2_1, A158_o2_2, c158_o2_2, A158_o2_3, c158_o2_3, _, _, rfl, h, hI, hll155_, hhh155_, ht158_o0, hc158_o0_1, hs158_o0_1, ht158_o1, ht158_o2, hc158_o2_1, hs158_o2_1, hc158_o2_2, hs158_o2_2, hc158_o2_3, hs158_o2_3, trivial⟩, ⟨rfl, rfl, rfl, rfl, rfl, trivial⟩⟩
             ·
              replace h := h.2 hg157_
              refine HS_pass rfl rfl ?_
              refine HS_pass rfl rfl ?_
              refine HS_pass rfl rfl ?_
              refine HS_pass rfl rfl ?_
              refine HS_pass rfl rfl ?_
              refine HS_pass rfl rfl ?_
              refine HS_pass rfl rfl ?_
              refine HS_pass rfl rfl ?_
              refine HS_pass rfl rfl ?_
              refine HS_pass rfl rfl ?_
              refine HS_passL rfl rfl ?_
              refine HS_passL rfl rfl ?_
              refine HS_pass rfl rfl ?_
              refine HS_pass rfl rfl ?_
              refine HS_passU rfl rfl ?_
              refine HS_passU rfl rfl ?_
              refine HS_passLU rfl rfl ?_
              refine HS_passLU rfl rfl ?_
              refine HS_passLU rfl rfl ?_
              refine HS_passU rfl rfl ?_
              refine HS_pass rfl rfl ?_
              refine HSp (R_pick_false rfl rfl) rfl rfl ?_
              refine HS_nil ?_
              clear hops156_
              refine then_n ?_
              exact ⟨_, rfl, ⟨false, yo1_31b_146, Ao1_31b_146_1, co1_31b_146_1, yo2_31b_146, yo0_13b_146, Ao0_13b_146_1, co0_13b_146_1, Ao0_13b_146_2, co0_13b_146_2, Ao0_13b_146_3, co0_13b_146_3, _, _, rfl, h, hI, hll155_, hhh155_, hto1_31b_146, hco1_31b_146_1, hso1_31b_146_1, hto2_31b_146, hto0_13b_146, hco0_13b_146_1, hso0_13b_146_1, hco0_13b_146_2, hso0_13b_146_2, hco0_13b_146_3, hso0_13b_146_3, trivial⟩, ⟨rfl, rfl, rfl, rfl, rfl, trivial⟩⟩
            ·
             simp only [e_, Nat.reduceAdd, Nat.reduceBEq] at b_
             subst b_
             clear h
             rintro _ w155_ ⟨x120_155, yo1_31b_155, Ao1_31b_155_1, co1_31b_155_1, yo2_31b_155, yo0_13b_155, Ao0_13b_155_1, co0_13b_155_1, Ao0_13b_155_2, co0_13b_155_2, Ao0_13b_155_3, co0_13b_155_3, L155_, H155_, rfl, hJ155_, hI155_, hll155_, hhh155_, hto1_31b_155, hco1_31b_155_1, hso1_31b_155_1, hto2_31b_155, hto0_13b_155, hco0_13b_155_1, hso0_13b_155_1, hco0_13b_155_2, hso0_13b_155_2, hco0_13b_155_3, hso0_13b_155_3, -⟩
             replace hI := hI155_
             clear hI155_
             have h := hr155_ x120_155 yo1_31b_155 yo2_31b_155 yo0_13b_155 hJ155_
             clear hr155_ hJ155_
             replace hs3 := hs3.up hhh155_
             replace hll144_ := hll144_.trans hll155_
             replace hhh144_ := hhh144_.trans hhh155_
             replace hll146_ := hll146_.trans hll155_
             replace hhh146_ := hhh146_.trans hhh155_
             refine W_cond rfl (fun hc166_ => ?_) (fun hc166_ => ?_)
             ·
              replace h := h.1 hc166_
              refine W_seq_k fun K167 k167 => ?_
              refine W_region [8] rfl (Ops_step (R_assign rfl) rfl rfl ?_)
              refine Ops_nil ?_
              refine then_n (k167 _ _ ?_)
              clear k167 K167
              refine W_keepB [8] fun B_ b_ => ?_
              simp only [e_, Nat.reduceAdd, Nat.reduceBEq] at b_
              subst b_
              refine W_ret ?_
              refine block_ret ?_
              refine then_ret ?_
              clear k150 K150
              refine then_ret ?_
              refine block_ret ?_
              refine then_ret ?_
              refine ⟨_, ⟨_, _, rfl, rfl, rfl⟩, ?_⟩
              exact ⟨false, _, _, rfl, hI, h⟩
             ·
              replace h := h.2 hc166_
              refine W_skip ?_
              refine block_n ?_
              refine then_n (k150 _ _ ?_)
              clear k150 K150
              refine W_region [121, 90] rfl ?_
              have hk169_ := h.1
              replace h := h.2
              refine Ops_step (R_add rfl rfl (wI hk169_.1 hk169_.2)) rfl rfl (Ops_step (R_move rfl) rfl rfl ?_)
              refine Ops_nil ?_
              refine then_n ?_
              exact h.elim fun m_ h => ⟨m_, _, h.1, rfl, ⟨(x90_146 + 1), yo1_31b_155, Ao1_31b_155_1, co1_31b_155_1, yo2_31b_155, yo0_13b_155, Ao0_13b_155_1, co0_13b_155_1, Ao0_13b_155_2, co0_13b_155_2, Ao0_13b_155_3, co0_13b_155_3, _, _, rfl, h.2, hI, hll146_, hhh146_, hto1_31b_155, hco1_31b_155_1, hso1_31b_155_1, hto2_31b_155, hto0_13b_155, hco0_13b_155_1, hso0_13b_155_1, hco0_13b_155_2, hso0_13b_155_2, hco0_13b_155_3, hso0_13b_155_3, trivial⟩, ⟨rfl, rfl, rfl, rfl, trivial⟩⟩
           ·
            replace h := h.2 hc149_
            refine W_exit ?_
            refine then_exit ?_
            clear k148 K148
            refine then_exit ?_
            refine block_exit ?_
            refine then_n ?_
            exact ⟨_, rfl, ⟨_, _, rfl, h, hI, hll144_, hhh144_, trivial⟩, trivial⟩
          ·
           simp only [e_, Nat.reduceAdd, Nat.reduceBEq] at b_
           subst b_
           clear h
           rintro _ w144_ ⟨L144_, H144_, rfl, hJ144_, hI144_, hll144_, hhh144_, -⟩
           replace hI := hI144_
           clear hI144_
           have h := hr144_ hJ144_
           clear hr144_ hJ144_
           refine W_seq_k fun K170 k170 => ?_
           refine W_region [122, 8] rfl ?_
           refine Ops_call (C_func bd12 rfl) rfl rfl ?_
           refine (sealskinlaw06_awake_ok  hI.st (hg.up hI.le)  h).mono ?_
           rintro _ w171_ ⟨r171_0, L171_, H171_, rfl, hI171_, h⟩
           refine Exists.elim (hI.call hI171_ (by simp)) fun L1710_ h171_ => ?_
           have hz171_ := hI.size
           replace hI := h171_.1
           have u171_ := h171_.2.1
           have hl171_ := h171_.2.2
           clear h171_
           clear hI171_ u171_ hl171_
           refine ⟨_, rfl, ?_⟩
           refine Ops_step (R_assign rfl) rfl rfl ?_
           refine Ops_nil ?_
           refine then_n (k170 _ _ ?_)
           clear k170 K170
           refine W_ret ?_
           refine ⟨_, ⟨_, _, rfl, rfl, rfl⟩, ?_⟩
           exact ⟨r171_0, _, _, rfl, hI, h⟩
       ·
        have hge0_o1_132b := hge_o1_132b
        replace hge_o1_132b := Nat.le_trans hI.size hge_o1_132b
        have hge0_o2_132b := hge_o2_132b
        replace hge_o2_132b := Nat.le_trans hI.size hge_o2_132b
        refine Exists.elim (hI.call hI132b_ (new1 hge_o1_131)) fun L132b0_ h132b_ => ?_
        have hz132b_ := hI.size
        replace hI := h132b_.1
        have u132b_ := h132b_.2.1
        have hl132b_ := h132b_.2.2
        clear h132b_
        replace hs3 := hs3.up u132b_.hh
        replace ht31b_o0 := ht31b_o0.up u132b_ (ne1 hneo1_131_o0_13b)
        replace hs31b_o0_1 := hs31b_o0_1.up u132b_.hh
        replace hs31b_o0_2 := hs31b_o0_2.up u132b_.hh
        replace hs31b_o0_3 := hs31b_o0_3.up u132b_.hh
        replace ht31b_o1 := ht31b_o1.up u132b_ (ht31b_o1.apart ht131_o1 (by decide))
        replace hs31b_o1_1 := hs31b_o1_1.up u132b_.hh
        replace ht31b_o2 := ht31b_o2.up u132b_.hh u132b_ (ht31b_o2.neT ht131_o1)
        replace hs131_o1_1 := hs131_o1_1.up u132b_.hh
        replace hs131_o1_2 := hs131_o1_2.up u132b_.hh
        replace hs131_o1_3 := hs131_o1_3.up u132b_.hh
        clear ht131_o1
        have hneo1_132b_o1_31b : o1_31b ≠ o1_132b := fun e_ => absurd hlo132_o1_31b (by omega)
        have hneo2_132b_o2_31b : o2_31b ≠ o2_132b := fun e_ => absurd hlo132_o2_31b (by omega)
        clear hI132b_ u132b_ hl132b_
        refine ⟨_, rfl, ?_⟩
        refine Ops_step (R_move rfl) rfl rfl ?_
        refine Ops_step (R_extract (v := .pointer (some ⟨o1_132b, 0, none⟩)) rfl rfl) rfl rfl ?_
        refine Ops_step (R_extract (v := vi r132b_1) rfl rfl) rfl rfl ?_
        refine Ops_step (R_assign rfl) rfl rfl (Ops_step (R_assign rfl) rfl rfl ?_)
        refine Ops_nil ?_
        refine then_n (k130 _ _ ?_)
        clear k130 K130
        refine W_keepB [3, 13, 14, 15] fun B_ b_ => ?_
        simp only [e_, Nat.reduceAdd, Nat.reduceBEq] at b_
        subst b_
        refine W_seq_k fun K173 k173 => ?_
        refine ex_ h fun J174_ hr174_ h => ?_
        refine W_seq_join [3, 13, 15] [87] (fun vals_ w2 => ∃ (x87_174 : Bool) (L H : Gh), vals_ = [.bool x87_174] ∧ J174_ x87_174 ∧ Inv [] G w L H w2 ∧ Le L132b0_ L ∧ Le H132b_ H ∧ Tok H w2 o0_13b 53 ([.slice A31b_o0_1 y31b_o0.files_.e0_.length c31b_o0_1, .slice A31b_o0_2 y31b_o0.files_.e1_.length c31b_o0_2, .slice A31b_o0_3 y31b_o0.files_.e2_.length c31b_o0_3, vi y31b_o0.room_, .bool y31b_o0.off_, .bool y31b_o0.armed_, vi y31b_o0.left_]) ∧ Tok H w2 o1_31b 46 ([.slice A31b_o1_1 y31b_o1.book_.l_.length c31b_o1_1, .map (some o2_31b), .pointer (some ⟨o0_13b, 0, none⟩), vi y31b_o1.gen_, vi y31b_o1.place_]) ∧ MTok H H w2 o2_31b y31b_o2 ∧ Tok H w2 o1_131 53 ([.slice A132b_o0_1 y132b_o0.files_.e0_.length c132b_o0_1, .slice A132b_o0_2 y132b_o0.files_.e1_.length c132b_o0_2, .slice A132b_o0_3 y132b_o0.files_.e2_.length c132b_o0_3, vi y132b_o0.room_, .bool y132b_o0.off_, .bool y132b_o0.armed_, vi y132b_o0.left_]) ∧ Tok H w2 o1_132b 46 ([.slice A132b_o1_1 y132b_o1.book_.l_.length c132b_o1_1, .map (some o2_132b), .pointer (some ⟨o1_131, 0, none⟩), vi y132b_o1.gen_, vi y132b_o1.place_]) ∧ MTok H H w2 o2_132b y132b_o2 ∧ True) (fun B_ b_ => ?_) (fun B_ b_ => ?_)
        ·
         simp only [e_, Nat.reduceAdd, Nat.reduceBEq] at b_
         subst b_
         clear hr174_
         have hll174_ := Le.refl L132b0_
         have hhh174_ := Le.refl H132b_
         refine W_region [78, 79, 80, 81, 82, 83, 84, 85, 86, 87] rfl (Ops_step (R_move rfl) rfl rfl (Ops_step (R_neq rfl rfl) rfl rfl (Ops_step (R_move rfl) rfl rfl ?_)))
         refine Ops_split 80 rfl (fun hg175_ => ?_) (fun hg175_ => ?_)
         ·
          replace h := h.1 hg175_
          refine Ops_pass rfl rfl (Ops_pass rfl rfl (Ops_pass rfl rfl (Ops_pass rfl rfl (Ops_pass rfl rfl ?_))))
          refine Ops_pass rfl rfl (Ops_step (R_pick_true rfl rfl) rfl rfl ?_)
          refine Ops_nil ?_
          refine then_n ?_
          exact ⟨_, rfl, ⟨true, _, _, rfl, h, hI, hll174_, hhh174_, ht31b_o0, ht31b_o1, ht31b_o2, ht132b_o0, ht132b_o1, ht132b_o2, trivial⟩, ⟨rfl, rfl, rfl, trivial⟩⟩
         ·
          replace h := h.2 hg175_
          refine Ops_step (R_move rfl) rfl rfl ?_
          refine Ops_call (C_func bd16 rfl) rfl rfl ?_
          refine (sealskinlaw06_records_ok (z0 := y31b_o1) (z1 := y31b_o2) (z2 := y31b_o0) hI.st (hg.up hI.le) ht31b_o2 ht31b_o0 hc31b_o0_1 hs31b_o0_1 hc31b_o0_2 hs31b_o0_2 hc31b_o0_3 hs31b_o0_3 ht31b_o1 hc31b_o1_1 hs31b_o1_1 h).mono ?_
          rintro _ w176_ ⟨A176_0, c176_0, r176_0, L176_, H176_, rfl, hI176_, ho176_0, h⟩
          refine Exists.elim (hI.call hI176_ (by simp)) fun L1760_ h176_ => ?_
          have hz176_ := hI.size
          replace hI := h176_.1
          have u176_ := h176_.2.1
          have hl176_ := h176_.2.2
          clear h176_
          replace hs3 := hs3.up u176_.hh
          replace ht31b_o0 := ht31b_o0.up u176_ (by simp)
          replace hs31b_o0_1 := hs31b_o0_1.up u176_.hh
          replace hs31b_o0_2 := hs31b_o0_2.up u176_.hh
          replace hs31b_o0_3 := hs31b_o0_3.up u176_.hh
          replace ht31b_o1 := ht31b_o1.up u176_ (by simp)
          replace hs31b_o1_1 := hs31b_o1_1.up u176_.hh
          replace ht31b_o2 := ht31b_o2.up u176_.hh u176_ (by simp)
          replace ht132b_o0 := ht132b_o0.up u176_ (by simp)
          replace hs132b_o0_1 := hs132b_o0_1.up u176_.hh
          replace hs132b_o0_2 := hs132b_o0_2.up u176_.hh
          replace hs132b_o0_3 := hs132b_o0_3.up u176_.hh
          replace ht132b_o1 := ht132b_o1.up u176_ (by simp)
          replace hs132b_o1_1 := hs132b_o1_1.up u176_.hh
          replace ht132b_o2 := ht132b_o2.up u176_.hh u176_ (by simp)
          replace hll174_ := hll174_.trans u176_.ll
          replace hhh174_ := hhh174_.trans u176_.hh
          replace ho176_0 := OwnS.back ho176_0 hz176_ hl176_ (Le.refl _)
          clear hI176_ u176_ hl176_
          refine ⟨_, rfl, ?_⟩
          refine Exists.elim (ho176_0.freeze hI) fun L177_ h177_ => Exists.elim h177_ fun H177_ h177_ => ?_
          replace hI := h177_.1
          have u177_ := h177_.2.1
          have hs177_ := h177_.2.2.1 (Le.refl _)
          have hc177_ := ho176_0.cap
          replace hs3 := hs3.up u177_.hh
          replace ht31b_o0 := ht31b_o0.up u177_ (ht31b_o0.sep ho176_0 (by decide))
          replace hs31b_o0_1 := hs31b_o0_1.up u177_.hh
          replace hs31b_o0_2 := hs31b_o0_2.up u177_.hh
          replace hs31b_o0_3 := hs31b_o0_3.up u177_.hh
          replace ht31b_o1 := ht31b_o1.up u177_ (ht31b_o1.sep ho176_0 (by decide))
          replace hs31b_o1_1 := hs31b_o1_1.up u177_.hh
          replace ht31b_o2 := ht31b_o2.up u177_.hh u177_ (ht31b_o2.neO ho176_0)
          replace ht132b_o0 := ht132b_o0.up u177_ (ht132b_o0.sep ho176_0 (by decide))
          replace hs132b_o0_1 := hs132b_o0_1.up u177_.hh
          replace hs132b_o0_2 := hs132b_o0_2.up u177_.hh
          replace hs132b_o0_3 := hs132b_o0_3.up u177_.hh
          replace ht132b_o1 := ht132b_o1.up u177_ (ht132b_o1.sep ho176_0 (by decide))
          replace hs132b_o1_1 := hs132b_o1_1.up u177_.hh
          replace ht132b_o2 := ht132b_o2.up u177_.hh u177_ (ht132b_o2.neO ho176_0)
          replace hll174_ := hll174_.trans u177_.ll
          replace hhh174_ := hhh174_.trans u177_.hh
          clear h177_ u177_ ho176_0
          refine Ops_step (R_move rfl) rfl rfl ?_
          refine Ops_call (C_func bd16 rfl) rfl rfl ?_
          refine (sealskinlaw06_records_ok (z0 := y132b_o1) (z1 := y132b_o2) (z2 := y132b_o0) hI.st (hg.up hI.le) ht132b_o2 ht132b_o0 hc132b_o0_1 hs132b_o0_1 hc132b_o0_2 hs132b_o0_2 hc132b_o0_3 hs132b_o0_3 ht132b_o1 hc132b_o1_1 hs132b_o1_1 h).mono ?_
          rintro _ w178_ ⟨A178_0, c178_0, r178_0, L178_, H178_, rfl, hI178_, ho178_0, h⟩
          refine Exists.elim (hI.call hI178_ (by simp)) fun L1780_ h178_ => ?_
          have hz178_ := hI.size
          replace hI := h178_.1
          have u178_ := h178_.2.1
          have hl178_ := h178_.2.2
          clear h178_
          replace hs3 := hs3.up u178_.hh
          replace ht31b_o0 := ht31b_o0.up u178_ (by simp)
          replace hs31b_o0_1 := hs31b_o0_1.up u178_.hh
          replace hs31b_o0_2 := hs31b_o0_2.up u178_.hh
          replace hs31b_o0_3 := hs31b_o0_3.up u178_.hh
          replace ht31b_o1 := ht31b_o1.up u178_ (by simp)
          replace hs31b_o1_1 := hs31b_o1_1.up u178_.hh
          replace ht31b_o2 := ht31b_o2.up u178_.hh u178_ (by simp)
          replace ht132b_o0 := ht132b_o0.up u178_ (by simp)
          replace hs132b_o0_1 := hs132b_o0_1.up u178_.hh
          replace hs132b_o0_2 := hs132b_o0_2.up u178_.hh
          replace hs132b_o0_3 := hs132b_o0_3.up u178_.hh
          replace ht132b_o1 := ht132b_o1.up u178_ (by simp)
          replace hs132b_o1_1 := hs132b_o1_1.up u178_.hh
          replace ht132b_o2 := ht132b_o2.up u178_.hh u178_ (by simp)
          replace hll174_ := hll174_.trans u178_.ll
          replace hhh174_ := hhh174_.trans u178_.hh
          replace hs177_ := hs177_.up u178_.ll
          replace ho178_0 := OwnS.back ho178_0 hz178_ hl178_ (Le.refl _)
          clear hI178_ u178_ hl178_
          refine ⟨_, rfl, ?_⟩
          refine Exists.elim (ho178_0.freeze hI) fun L179_ h179_ => Exists.elim h179_ fun H179_ h179_ => ?_
          replace hI := h179_.1
          have u179_ := h179_.2.1
          have hs179_ := h179_.2.2.1 (Le.refl _)
          have hc179_ := ho178_0.cap
          replace hs3 := hs3.up u179_.hh
          replace ht31b_o0 := ht31b_o0.up u179_ (ht31b_o0.sep ho178_0 (by decide))
          replace hs31b_o0_1 := hs31b_o0_1.up u179_.hh
          replace hs31b_o0_2 := hs31b_o0_2.up u179_.hh
          replace hs31b_o0_3 := hs31b_o0_3.up u179_.hh
          replace ht31b_o1 := ht31b_o1.up u179_ (ht31b_o1.sep ho178_0 (by decide))
          replace hs31b_o1_1 := hs31b_o1_1.up u179_.hh
          replace ht31b_o2 := ht31b_o2.up u179_.hh u179_ (ht31b_o2.neO ho178_0)
          replace ht132b_o0 := ht132b_o0.up u179_ (ht132b_o0.sep ho178_0 (by decide))
          replace hs132b_o0_1 := hs132b_o0_1.up u179_.hh
          replace hs132b_o0_2 := hs132b_o0_2.up u179_.hh
          replace hs132b_o0_3 := hs132b_o0_3.up u179_.hh
          replace ht132b_o1 := ht132b_o1.up u179_ (ht132b_o1.sep ho178_0 (by decide))
          replace hs132b_o1_1 := hs132b_o1_1.up u179_.hh
          replace ht132b_o2 := ht132b_o2.up u179_.hh u179_ (ht132b_o2.neO ho178_0)
          replace hll174_ := hll174_.trans u179_.ll
          replace hhh174_ := hhh174_.trans u179_.hh
          replace hs177_ := hs177_.up u179_.ll
          clear h179_ u179_ ho178_0
          refine Ops_call (C_func bd23 rfl) rfl rfl ?_
          refine (slices_Equal_sealskinref06_Record_sealskinref06_Record_ok (x0 := r176_0) (x1 := r178_0) hI.st (hg.up hI.le) hc177_ (hs177_.up hI.sub) hc179_ (hs179_.up hI.sub) h).mono ?_
          rintro _ w180_ ⟨r180_0, L180_, H180_, rfl, hI180_, h⟩
          refine Exists.elim (hI.call hI180_ (by simp)) fun L1800_ h180_ => ?_
          have hz180_ := hI.size
          replace hI := h180_.1
          have u180_ := h180_.2.1
          have hl180_ := h180_.2.2
          clear h180_
          replace hs3 := hs3.up u180_.hh
          replace ht31b_o0 := ht31b_o0.up u180_ (by simp)
          replace hs31b_o0_1 := hs31b_o0_1.up u180_.hh
          replace hs31b_o0_2 := hs31b_o0_2.up u180_.hh
          replace hs31b_o0_3 := hs31b_o0_3.up u180_.hh
          replace ht31b_o1 := ht31b_o1.up u180_ (by simp)
          replace hs31b_o1_1 := hs31b_o1_1.up u180_.hh
          replace ht31b_o2 := ht31b_o2.up u180_.hh u180_ (by simp)
          replace ht132b_o0 := ht132b_o0.up u180_ (by simp)
          replace hs132b_o0_1 := hs132b_o0_1.up u180_.hh
          replace hs132b_o0_2 := hs132b_o0_2.up u180_.hh
          replace hs132b_o0_3 := hs132b_o0_3.up u180_.hh
          replace ht132b_o1 := ht132b_o1.up u180_ (by simp)
          replace hs132b_o1_1 := hs132b_o1_1.up u180_.hh
          replace ht132b_o2 := ht132b_o2.up u180_.hh u180_ (by simp)
          replace hll174_ := hll174_.trans u180_.ll
          replace hhh174_ := hhh174_.trans u180_.hh
          clear hI180_ u180_ hl180_
          refine ⟨_, rfl, ?_⟩
          refine Ops_step (R_not rfl) rfl rfl (Ops_step (R_pick_false rfl rfl) rfl rfl ?_)
          refine Ops_nil ?_
          refine then_n ?_
          exact ⟨_, rfl, ⟨(!r180_0), _, _, rfl, h, hI, hll174_, hhh174_, ht31b_o0, ht31b_o1, ht31b_o2, ht132b_o0, ht132b_o1, ht132b_o2, trivial⟩, ⟨rfl, rfl, rfl, trivial⟩⟩
        ·
         simp only [e_, Nat.reduceAdd, Nat.reduceBEq] at b_
         subst b_
         clear h
         clear ht132b_o0
         clear ht132b_o1
         clear ht132b_o2
         clear ht31b_o0
         clear ht31b_o1
         clear ht31b_o2
         rintro _ w174_ ⟨x87_174, L174_, H174_, rfl, hJ174_, hI174_, hll174_, hhh174_, ht31b_o0, ht31b_o1, ht31b_o2, ht132b_o0, ht132b_o1, ht132b_o2, -⟩
         replace hI := hI174_
         clear hI174_
         have h := hr174_ x87_174 hJ174_
         clear hr174_ hJ174_
         replace hs3 := hs3.up hhh174_
         replace hs31b_o0_1 := hs31b_o0_1.up hhh174_
         replace hs31b_o0_2 := hs31b_o0_2.up hhh174_
         replace hs31b_o0_3 := hs31b_o0_3.up hhh174_
         replace hs31b_o1_1 := hs31b_o1_1.up hhh174_
         replace hs132b_o0_1 := hs132b_o0_1.up hhh174_
         replace hs132b_o0_2 := hs132b_o0_2.up hhh174_
         replace hs132b_o0_3 := hs132b_o0_3.up hhh174_
         replace hs132b_o1_1 := hs132b_o1_1.up hhh174_
         refine W_cond rfl (fun hc181_ => ?_) (fun hc181_ => ?_)
         ·
          replace h := h.1 hc181_
          refine W_seq_k fun K182 k182 => ?_
          refine W_region [8] rfl (Ops_step (R_assign rfl) rfl rfl ?_)
          refine Ops_nil ?_
          refine then_n (k182 _ _ ?_)
          clear k182 K182
          refine W_ret ?_
          refine then_ret ?_
          clear k173 K173
          refine ⟨_, ⟨_, _, rfl, rfl, rfl⟩, ?_⟩
          exact ⟨false, _, _, rfl, hI, h⟩
         ·
          replace h := h.2 hc181_
          refine W_skip ?_
          refine then_n (k173 _ _ ?_)
          clear k173 K173
          refine ex_ h fun J183_ hr183_ h => ?_
          refine W_seq_join [] [] (fun vals_ w2 => ∃  (L H : Gh), vals_ = [] ∧ J183_ ∧ Inv [] G w L H w2 ∧ Le L174_ L ∧ Le H174_ H ∧ True) (fun B_ b_ => ?_) (fun B_ b_ => ?_)
          ·
           simp only [e_, Nat.reduceAdd, Nat.reduceBEq] at b_
           subst b_
           clear hr183_
           have hll183_ := Le.refl L174_
           have hhh183_ := Le.refl H174_
           refine W_seq_k fun K184 k184 => ?_
           refine W_region [88, 89, 90] rfl (Ops_step (R_move rfl) rfl rfl (Ops_step (R_len Try.underlying22 rfl rfl) rfl rfl (Ops_step (R_move rfl) rfl rfl ?_)))
           refine Ops_nil ?_
           refine then_n (k184 _ _ ?_)
           clear k184 K184
           refine W_block ?_
           refine Exists.elim h fun I185_ h => Exists.elim h fun n185_ h => ?_
           have h0_ := h.1
           have hs185_ := h.2
           clear h
           refine W_loopB [13, 15, 88, 89] [90] (fun m vals_ w2 => ∃ (x90_185 : Int) (yo1_31b_185 : journal_Journal) (Ao1_31b_185_1 : Option Addr) (co1_31b_185_1 : Nat) (yo2_31b_185 : List (Int × Int)) (yo0_13b_185 : disk_Disk) (Ao0_13b_185_1 : Option Addr) (co0_13b_185_1 : Nat) (Ao0_13b_185_2 : Option Addr) (co0_13b_185_2 : Nat) (Ao0_13b_185_3 : Option Addr) (co0_13b_185_3 : Nat) (yo1_132b_185 : journal_Journal) (Ao1_132b_185_1 : Option Addr) (co1_132b_185_1 : Nat) (yo2_132b_185 : List (Int × Int)) (yo1_131_185 : disk_Disk) (Ao1_131_185_1 : Option Addr) (co1_131_185_1 : Nat) (Ao1_131_185_2 : Option Addr) (co1_131_185_2 : Nat) (Ao1_131_185_3 : Option Addr) (co1_131_185_3 : Nat) (L H : Gh), vals_ = [vi x90_185] ∧ I185_ m x90_185 yo1_31b_185 yo2_31b_185 yo0_13b_185 yo1_132b_185 yo2_132b_185 yo1_131_185 ∧ Inv [] G w L H w2 ∧ Le L174_ L ∧ Le H174_ H ∧ Tok H w2 o1_31b 46 ([.slice Ao1_31b_185_1 yo1_31b_185.book_.l_.length co1_31b_185_1, .map (some o2_31b), .pointer (some ⟨o0_13b, 0, none⟩), vi yo1_31b_185.gen_, vi yo1_31b_185.place_]) ∧ yo1_31b_185.book_.l_.length ≤ co1_31b_185_1 ∧ Sl H Ao1_31b_185_1 yo1_31b_185.book_.l_ ∧ MTok H H w2 o2_31b yo2_31b_185 ∧ Tok H w2 o0_13b 53 ([.slice Ao0_13b_185_1 yo0_13b_185.files_.e0_.length co0_13b_185_1, .slice Ao0_13b_185_2 yo0_13b_185.files_.e1_.length co0_13b_185_2, .slice Ao0_13b_185_3 yo0_13b_185.files_.e2_.length co0_13b_185_3, vi yo0_13b_185.room_, .bool yo0_13b_185.off_, .bool yo0_13b_185.armed_, vi yo0_13b_185.left_]) ∧ yo0_13b_185.files_.e0_.length ≤ co0_13b_185_1 ∧ Sl H Ao0_13b_185_1 yo0_13b_185.files_.e0_ ∧ yo0_13b_185.files_.e1_.length ≤ co0_13b_185_2 ∧ Sl H Ao0_13b_185_2 yo0_13b_185.files_.e1_ ∧ yo0_13b_185.files_.e2_.length ≤ co0_13b_185_3 ∧ Sl H Ao0_13b_185_3 yo0_13b_185.files_.e2_ ∧ Tok H w2 o1_132b 46 ([.slice Ao1_132b_185_1 yo1_132b_185.book_.l_.length co1_132b_185_1, .map (some o2_132b), .pointer (some ⟨o1_131, 0, none⟩), vi yo1_132b_185.gen_, vi yo1_132b_185.place_]) ∧ yo1_132b_185.book_.l_.length ≤ co1_132b_185_1 ∧ Sl H Ao1_132b_185_1 yo1_132b_185.book_.l_ ∧ MTok H H w2 o2_132b yo2_132b_185 ∧ Tok H w2 o1_131 53 ([.slice Ao1_131_185_1 yo1_131_185.files_.e0_.length co1_131_185_1, .slice Ao1_131_185_2 yo1_131_185.files_.e1_.length co1_131_185_2, .slice Ao1_131_185_3 yo1_131_185.files_.e2_.length co1_131_185_3, vi yo1_131_185.room_, .bool yo1_131_185.off_, .bool yo1_131_185.armed_, vi yo1_131_185.left_]) ∧ yo1_131_185.files_.e0_.length ≤ co1_131_185_1 ∧ Sl H Ao1_131_185_1 yo1_131_185.files_.e0_ ∧ yo1_131_185.files_.e1_.length ≤ co1_131_185_2 ∧ Sl H Ao1_131_185_2 yo1_131_185.files_.e1_ ∧ yo1_131_185.files_.e2_.length ≤ co1_131_185_3 ∧ Sl H Ao1_131_185_3 yo1_131_185.files_.e2_ ∧ True) n185_ _ rfl ⟨0, y31b_o1, A31b_o1_1, c31b_o1_1, y31b_o2, y31b_o0, A31b_o0_1, c31b_o0_1, A31b_o0_2, c31b_o0_2, A31b_o0_3, c31b_o0_3, y132b_o1, A132b_o1_1, c132b_o1_1, y132b_o2, y132b_o0, A132b_o0_1, c132b_o0_1, A132b_o0_2, c132b_o0_2, A132b_o0_3, c132b_o0_3, _, _, rfl, h0_, hI, Le.refl _, Le.refl _, ht31b_o1, hc31b_o1_1, hs31b_o1_1, ht31b_o2, ht31b_o0, hc31b_o0_1, hs31b_o0_1, hc31b_o0_2, hs31b_o0_2, hc31b_o0_3, hs31b_o0_3, ht132b_o1, hc132b_o1_1, hs132b_o1_1, ht132b_o2, ht132b_o0, hc132b_o0_1, hs132b_o0_1, hc132b_o0_2, hs132b_o0_2, hc132b_o0_3, hs132b_o0_3, trivial⟩ fun B_ b_ => ?_
           clear h0_
           simp only [e_, Nat.reduceAdd, Nat.reduceBEq] at b_
           subst b_
           rintro m185_ _ w185_ ⟨x90_185, yo1_31b_185, Ao1_31b_185_1, co1_31b_185_1, yo2_31b_185, yo0_13b_185, Ao0_13b_185_1, co0_13b_185_1, Ao0_13b_185_2, co0_13b_185_2, Ao0_13b_185_3, co0_13b_185_3, yo1_132b_185, Ao1_132b_185_1, co1_132b_185_1, yo2_132b_185, yo1_131_185, Ao1_131_185_1, co1_131_185_1, Ao1_131_185_2, co1_131_185_2, Ao1_131_185_3, co1_131_185_3, L185_, H185_, rfl, hJ185_, hI185_, hll185_, hhh185_, hto1_31b_185, hco1_31b_185_1, hso1_31b_185_1, hto2_31b_185, hto0_13b_185, hco0_13b_185_1, hso0_13b_185_1, hco0_13b_185_2, hso0_13b_185_2, hco0_13b_185_3, hso0_13b_185_3, hto1_132b_185, hco1_132b_185_1, hso1_132b_185_1, hto2_132b_185, hto1_131_185, hco1_131_185_1, hso1_131_185_1, hco1_131_185_2, hso1_131_185_2, hco1_131_185_3, hso1_131_185_3, -⟩
           replace hI := hI185_
           clear hI185_
           have h := hs185_ m185_ x90_185 yo1_31b_185 yo2_31b_185 yo0_13b_185 yo1_132b_185 yo2_132b_185 yo1_131_185 hJ185_
           clear hs185_ hJ185_
           replace hs3 := hs3.up hhh185_
           replace hll183_ := hll183_.trans hll185_
           replace hhh183_ := hhh183_.trans hhh185_
           refine W_seq_k fun K186 k186 => ?_
           refine W_region [91] rfl (Ops_step (R_lss rfl rfl) rfl rfl ?_)
           refine Ops_nil ?_
           refine then_n (k186 _ _ ?_)
           clear k186 K186
           refine W_seq_k fun K187 k187 => ?_
           refine W_if rfl (fun hc188_ => ?_) (fun hc188_ => ?_)
           ·
            replace h := h.1 hc188_
            refine W_skip ?_
            refine then_n (k187 _ _ ?_)
            clear k187 K187
            refine W_seq_k fun K189 k189 => ?_
            refine W_block ?_
            refine W_seq_k fun K190 k190 => ?_
            refine W_region [92, 93, 17, none] rfl ?_
            refine ex_ h fun x191_ hx191_ h => ?_
            have ha191_ := (Sl.atN (n := 4) rfl (by decide) hs3 hx191_).1
            refine Exists.elim (Sl.atN (n := 4) rfl (by decide) hs3 hx191_).2 fun l191_ hA191_ => ?_
            have hr191_ := hA191_.1
            have hg191_ := hA191_.2
            clear hA191_
            refine Ops_step (R_indexSl Try.underlying22 sz31 rfl rfl hx191_.1 hx191_.lt ha191_) rfl rfl ?_
            obtain ⟨A191_1, c191_1, rfl, ⟨hc191_1, hs191_1⟩⟩ := hr191_
            refine Ops_step (R_loadCs (cs := [vi x191_.Op_, vi x191_.Label_, vi x191_.N_, .slice A191_1 x191_.B_.length c191_1]) ag31 sz31 rfl (fun j_ v_ hv_ => hI.st _ _ (hg191_ j_ v_ hv_))) rfl rfl ?_
            have hI0_ := hI
            refine Ops_to (R_alloc zr31) rfl rfl ?_
            rintro _ w192_ ⟨b192_, rfl, hb192_, hB192_, hF192_⟩
            replace hI := hI.fr0 hF192_
            replace hto1_31b_185 := hto1_31b_185.fr0 hF192_
            replace hto2_31b_185 := hto2_31b_185.fr0 hF192_
            replace hto0_13b_185 := hto0_13b_185.fr0 hF192_
            replace hto1_132b_185 := hto1_132b_185.fr0 hF192_
            replace hto2_132b_185 := hto2_132b_185.fr0 hF192_
            replace hto1_131_185 := hto1_131_185.fr0 hF192_
            have ht192_ : Tok H185_ _ b192_ 31 ([vi 0, vi 0, vi 0, .slice none 0 0]) := ⟨hB192_.to rfl, Out.ge hI0_.st (Nat.le_of_eq hb192_.symm)⟩
            have hge_b192_ : w.heap.size ≤ b192_ := hb192_ ▸ hI0_.size
            clear hB192_ hb192_ hI0_ hF192_
            refine Ops_to0 (R_storeN sz31 rfl rfl rfl ht192_.blk (Nat.le_of_ble_eq_true rfl) rfl) rfl ?_
            rintro _ w193_ ⟨hB193_, hF193_⟩
            replace hI := hI.tok hF193_ (out1 ht192_.out) (new1 hge_b192_)
            replace hto1_31b_185 := hto1_31b_185.fr hF193_ (hto1_31b_185.apart ht192_ (by decide))
            replace hto2_31b_185 := hto2_31b_185.fr hF193_ (hto2_31b_185.neT ht192_)
            replace hto0_13b_185 := hto0_13b_185.fr hF193_ (hto0_13b_185.apart ht192_ (by decide))
            replace hto1_132b_185 := hto1_132b_185.fr hF193_ (hto1_132b_185.apart ht192_ (by decide))
            replace hto2_132b_185 := hto2_132b_185.fr hF193_ (hto2_132b_185.neT ht192_)
            replace hto1_131_185 := hto1_131_185.fr hF193_ (hto1_131_185.apart ht192_ (by decide))
            replace ht192_ : Tok H185_ _ b192_ 31 ([vi x191_.Op_, vi x191_.Label_, vi x191_.N_, .slice A191_1 x191_.B_.length c191_1]) := ⟨hB193_, ht192_.out⟩
            clear hF193_ hB193_
            refine Ops_nil ?_
            refine then_n (k190 _ _ ?_)
            clear k190 K190
            refine ex_ h fun J194_ hr194_ h => ?_
            refine W_seq_join [13, 15, 88, 89, 90] [120] (fun vals_ w2 => ∃ (x120_194 : Bool) (yo1_31b_194 : journal_Journal) (Ao1_31b_194_1 : Option Addr) (co1_31b_194_1 : Nat) (yo2_31b_194 : List (Int × Int)) (yo0_13b_194 : disk_Disk) (Ao0_13b_194_1 : Option Addr) (co0_13b_194_1 : Nat) (Ao0_13b_194_2 : Option Addr) (co0_13b_194_2 : Nat) (Ao0_13b_194_3 : Option Addr) (co0_13b_194_3 : Nat) (yo1_132b_194 : journal_Journal) (Ao1_132b_194_1 : Option Addr) (co1_132b_194_1 : Nat) (yo2_132b_194 : List (Int × Int)) (yo1_131_194 : disk_Disk) (Ao1_131_194_1 : Option Addr) (co1_131_194_1 : Nat) (Ao1_131_194_2 : Option Addr) (co1_131_194_2 : Nat) (Ao1_131_194_3 : Option Addr) (co1_131_194_3 : Nat) (L H : Gh), vals_ = [.bool x120_194] ∧ J194_ x120_194 yo1_31b_194 yo2_31b_194 yo0_13b_194 yo1_132b_194 yo2_132b_194 yo1_131_194 ∧ Inv [] G w L H w2 ∧ Le L185_ L ∧ Le H185_ H ∧ Tok H w2 o1_31b 46 ([.slice Ao1_31b_194_1 yo1_31b_194.book_.l_.length co1_31b_194_1, .map (some o2_31b), .pointer (some ⟨o0_13b, 0, none⟩), vi yo1_31b_194.gen_, vi yo1_31b_194.place_]) ∧ yo1_31b_194.book_.l_.length ≤ co1_31b_194_1 ∧ Sl H Ao1_31b_194_1 yo1_31b_194.book_.l_ ∧ MTok H H w2 o2_31b yo2_31b_194 ∧ Tok H w2 o0_13b 53 ([.slice Ao0_13b_194_1 yo0_13b_194.files_.e0_.length co0_13b_194_1, .slice Ao0_13b_194_2 yo0_13b_194.files_.e1_.length co0_13b_194_2, .slice Ao0_13b_194_3 yo0_13b_194.files_.e2_.length co0_13b_194_3, vi yo0_13b_194.room_, .bool yo0_13b_194.off_, .bool yo0_13b_194.armed_, vi yo0_13b_194.left_]) ∧ yo0_13b_194.files_.e0_.length ≤ co0_13b_194_1 ∧ Sl H Ao0_13b_194_1 yo0_13b_194.files_.e0_ ∧ yo0_13b_194.files_.e1_.length ≤ co0_13b_194_2 ∧ Sl H Ao0_13b_194_2 yo0_13b_194.files_.e1_ ∧ yo0_13b_194.files_.e2_.length ≤ co0_13b_194_3 ∧ Sl H Ao0_13b_194_3 yo0_13b_194.files_.e2_ ∧ Tok H w2 o1_132b 46 ([.slice Ao1_132b_194_1 yo1_132b_194.book_.l_.length co1_132b_194_1, .map (some o2_132b), .pointer (some ⟨o1_131, 0, none⟩), vi yo1_132b_194.gen_, vi yo1_132b_194.place_]) ∧ yo1_132b_194.book_.l_.length ≤ co1_132b_194_1 ∧ Sl H Ao1_132b_194_1 yo1_132b_194.book_.l_ ∧ MTok H H w2 o2_132b yo2_132b_194 ∧ Tok H w2 o1_131 53 ([.slice Ao1_131_194_1 yo1_131_194.files_.e0_.length co1_131_194_1, .slice Ao1_131_194_2 yo1_131_194.files_.e1_.length co1_131_194_2, .slice Ao1_131_194_3 yo1_131_194.files_.e2_.length co1_131_194_3, vi yo1_131_194.room_, .bool yo1_131_194.off_, .bool yo1_131_194.armed_, vi yo1_131_194.left_]) ∧ yo1_131_194.files_.e0_.length ≤ co1_131_194_1 ∧ Sl H Ao1_131_194_1 yo1_131_194.files_.e0_ ∧ yo1_131_194.files_.e1_.length ≤ co1_131_194_2 ∧ Sl H Ao1_131_194_2 yo1_131_194.files_.e1_ ∧ yo1_131_194.files_.e2_.length ≤ co1_131_194_3 ∧ Sl H Ao1_131_194_3 yo1_131_194.files_.e2_ ∧ True) (fun B_ b_ => ?_) (fun B_ b_ => ?_)
            ·
             simp only [e_, Nat.reduceAdd, Nat.reduceBEq] at b_
             subst b_
             clear hr194_
             have hll194_ := Le.refl L185_
             have hhh194_ := Le.refl H185_
             refine W_drawF [94, 95, 96, 97, 98, 99, 100, 101, 102, 103, 104, 105, 106, 107, 108, 109, 110, 111, 112, 113, 114, 115, 116, 117, 118, 119, 120] [(0, true), (1, true), (2, true), (3, true), (4, true), (5, true), (6, true), (7, true), (8, true), (9, true), (11, true), (12, true), (13, true), (14, true), (15, true), (10, false), (16, false), (17, true), (18, true), (19, true), (21, true), (20, false), (22, false), (23, false), (24, true), (25, true), (26, true)] TJmAgain.hm rfl (by kernel_rfl) fun ops195_ w195_ hops195_ hF195_ => ?_
             replace hI := hI.fr0 hF195_
             replace hto1_31b_185 := hto1_31b_185.fr0 hF195_
             replace hto2_31b_185 := hto2_31b_185.fr0 hF195_
             replace hto0_13b_185 := hto0_13b_185.fr0 hF195_
             replace hto1_132b_185 := hto1_132b_185.fr0 hF195_
             replace hto2_132b_185 := hto2_132b_185.fr0 hF195_
             replace hto1_131_185 := hto1_131_185.fr0 hF195_
             replace ht192_ := ht192_.fr0 hF195_
             clear hF195_
             refine HSp (R_fieldAddr fo31_0 rfl) rfl rfl ?_
             refine HS_loadB (v := vi x191_.Op_) ag3 rfl ht192_.blk rfl rfl rfl ?_
             refine HSp (R_and rfl rfl (andI_wrap _ _)) rfl rfl (HSp (R_lss rfl rfl) rfl rfl (HSp (R_move rfl) rfl rfl ?_))
             refine HS_split 98 rfl (fun hg196_ => ?_) (fun hg196_ => ?_)
             ·
              replace h := h.1 hg196_
              refine HSp (R_move rfl) rfl rfl (HSp (R_fieldAddr fo31_1 rfl) rfl rfl ?_)
              refine HS_loadB (v := vi x191_.Label_) ag3 rfl ht192_.blk rfl rfl rfl ?_
              refine HSp (R_fieldAddr fo31_3 rfl) rfl rfl ?_
              refine HS_loadB (v := .slice A191_1 x191_.B_.length c191_1) ag29 rfl ht192_.blk rfl rfl rfl ?_
              refine HSp (R_move rfl) rfl rfl (HSp (R_fieldAddr fo31_1 rfl) rfl rfl ?_)
              refine HS_loadB (v := vi x191_.Label_) ag3 rfl ht192_.blk rfl rfl rfl ?_
              refine HSp (R_fieldAddr fo31_3 rfl) rfl rfl ?_
              refine HS_loadB (v := .slice A191_1 x191_.B_.length c191_1) ag29 rfl ht192_.blk rfl rfl rfl ?_
              refine HS_call [15, 13] _ rfl (by rw [hops195_]; kernel_rfl) (C_func bd15 rfl) rfl rfl ?_
              refine (journal_Journal_Put_ok (x1 := x191_.Label_) (x2 := x191_.B_) (z0 := yo1_31b_185) (z1 := yo2_31b_185) (z2 := yo0_13b_185) hI.st (hg.up hI.le) hto2_31b_185 hto0_13b_185 hco0_13b_185_1 hso0_13b_185_1 hco0_13b_185_2 hso0_13b_185_2 hco0_13b_185_3 hso0_13b_185_3 hto1_31b_185 hco1_31b_185_1 hso1_31b_185_1 hc191_1 hs191_1 h).mono ?_
              rintro _ w197_ ⟨r197_0, y197_o0, A197_o0_1, c197_o0_1, y197_o1, y197_o2, A197_o2_1, c197_o2_1, A197_o2_2, c197_o2_2, A197_o2_3, c197_o2_3, L197_, H197_, rfl, hI197_, ht197_o0, hc197_o0_1, hs197_o0_1, ht197_o1, ht197_o2, hc197_o2_1, hs197_o2_1, hc197_o2_2, hs197_o2_2, hc197_o2_3, hs197_o2_3, h⟩
              refine Exists.elim (hI.call hI197_ (memG hge_o1_31b (memG hge_o2_31b (memG hge_o0_13b memN)))) fun L1970_ h197_ => ?_
              have hz197_ := hI.size
              replace hI := h197_.1
              have u197_ := h197_.2.1
              have hl197_ := h197_.2.2
              clear h197_
              replace hs3 := hs3.up u197_.hh
              replace hll183_ := hll183_.trans u197_.ll
              replace hhh183_ := hhh183_.trans u197_.hh
              replace hso1_31b_185_1 := hso1_31b_185_1.up u197_.hh
              replace hso0_13b_185_1 := hso0_13b_185_1.up u197_.hh
              replace hso0_13b_185_2 := hso0_13b_185_2.up u197_.hh
              replace hso0_13b_185_3 := hso0_13b_185_3.up u197_.hh
              replace hto1_132b_185 := hto1_132b_185.up u197_ (niA (ne1 (Ne.symm hneo1_132b_o1_31b)) (niA (hto1_132b_185.neM hto2_31b_185) (niA (hto1_132b_185.apart hto0_13b_185 (by decide)) List.not_mem_nil)))
              replace hso1_132b_185_1 := hso1_132b_185_1.up u197_.hh
              replace hto2_132b_185 := hto2_132b_185.up u197_.hh u197_ (niA (hto2_132b_185.neT hto1_31b_185) (niA (ne1 (Ne.symm hneo2_132b_o2_31b)) (niA (hto2_132b_185.neT hto0_13b_185) List.not_mem_nil)))
              replace hto1_131_185 := hto1_131_185.up u197_ (niA (hto1_131_185.apart hto1_31b_185 (by decide)) (niA (hto1_131_185.neM hto2_31b_185) (niA (ne1 (Ne.symm hneo1_131_o0_13b)) List.not_mem_nil)))
              replace hso1_131_185_1 := hso1_131_185_1.up u197_.hh
              replace hso1_131_185_2 := hso1_131_185_2.up u197_.hh
              replace hso1_131_185_3 := hso1_131_185_3.up u197_.hh
              replace hll185_ := hll185_.trans u197_.ll
              replace hhh185_ := hhh185_.trans u197_.hh
              replace hs191_1 := hs191_1.up u197_.hh
              replace ht192_ := ht192_.up u197_ (niA (ht192_.apart hto1_31b_185 (by decide)) (niA (ht192_.neM hto2_31b_185) (niA (ht192_.apart hto0_13b_185 (by decide)) List.not_mem_nil)))
              replace hll194_ := hll194_.trans u197_.ll
              replace hhh194_ := hhh194_.trans u197_.hh
              clear hto1_31b_185
              clear hto2_31b_185
              clear hto0_13b_185
              clear hI197_ u197_ hl197_
              refine ⟨_, rfl, ⟨(ht192_.blk.at_ rfl), (ht192_.blk.at_ rfl), trivial⟩, ?_⟩
              refine HS_call [] _ rfl (by rw [hops195_]; kernel_rfl) (C_func bd15 rfl) rfl rfl ?_
              refine (journal_Journal_Put_ok (x1 := x191_.Label_) (x2 := x191_.B_) (z0 := yo1_132b_185) (z1 := yo2_132b_185) (z2 := yo1_131_185) hI.st (hg.up hI.le) hto2_132b_185 hto1_131_185 hco1_131_185_1 hso1_131_185_1 hco1_131_185_2 hso1_131_185_2 hco1_131_185_3 hso1_131_185_3 hto1_132b_185 hco1_132b_185_1 hso1_132b_185_1 hc191_1 hs191_1 h).mono ?_
              rintro _ w198_ ⟨r198_0, y198_o0, A198_o0_1, c198_o0_1, y198_o1, y198_o2, A198_o2_1, c198_o2_1, A198_o2_2, c198_o2_2, A198_o2_3, c198_o2_3, L198_, H198_, rfl, hI198_, ht198_o0, hc198_o0_1, hs198_o0_1, ht198_o1, ht198_o2, hc198_o2_1, hs198_o2_1, hc198_o2_2, hs198_o2_2, hc198_o2_3, hs198_o2_3, h⟩
              refine Exists.elim (hI.call hI198_ (memG hge_o1_132b (memG hge_o2_132b (memG hge_o1_131 memN)))) fun L1980_ h198_ => ?_
              have hz198_ := hI.size
              replace hI := h198_.1
              have u198_ := h198_.2.1
              have hl198_ := h198_.2.2
              clear h198_
              replace hs3 := hs3.up u198_.hh
              replace hll183_ := hll183_.trans u198_.ll
              replace hhh183_ := hhh183_.trans u198_.hh
              replace hso1_132b_185_1 := hso1_132b_185_1.up u198_.hh
              replace hso1_131_185_1 := hso1_131_185_1.up u198_.hh
              replace hso1_131_185_2 := hso1_131_185_2.up u198_.hh
              replace hso1_131_185_3 := hso1_131_185_3.up u198_.hh
              replace hll185_ := hll185_.trans u198_.ll
              replace hhh185_ := hhh185_.trans u198_.hh
              replace hs191_1 := hs191_1.up u198_.hh
              replace ht192_ := ht192_.up u198_ (niA (ht192_.apart hto1_132b_185 (by decide)) (niA (ht192_.neM hto2_132b_185) (niA (ht192_.apart hto1_131_185 (by decide)) List.not_mem_nil)))
              replace hll194_ := hll194_.trans u198_.ll
              replace hhh194_ := hhh194_.trans u198_.hh
              replace ht197_o0 := ht197_o0.up u198_ (niA (ne1 hneo1_132b_o1_31b) (niA (ht197_o0.neM hto2_132b_185) (niA (ht197_o0.apart hto1_131_185 (by decide)) List.not_mem_nil)))
              replace hs197_o0_1 := hs197_o0_1.up u198_.hh
              replace ht197_o1 := ht197_o1.up u198_.hh u198_ (niA (ht197_o1.neT hto1_132b_185) (niA (ne1 hneo2_132b_o2_31b) (niA (ht197_o1.neT hto1_131_185) List.not_mem_nil)))
              replace ht197_o2 := ht197_o2.up u198_ (niA (ht197_o2.apart hto1_132b_185 (by decide)) (niA (ht197_o2.neM hto2_132b_185) (niA (ne1 hneo1_131_o0_13b) List.not_mem_nil)))
              replace hs197_o2_1 := hs197_o2_1.up u198_.hh
              replace hs197_o2_2 := hs197_o2_2.up u198_.hh
              replace hs197_o2_3 := hs197_o2_3.up u198_.hh
              clear hto1_132b_185
              clear hto2_132b_185
              clear hto1_131_185
              clear hI198_ u198_ hl198_
              refine ⟨_, rfl, trivial, ?_⟩
              refine HSp (R_neq rfl rfl) rfl rfl (HSp (R_move rfl) rfl rfl ?_)
              refine HS_split 112 rfl (fun hg199_ => ?_) (fun hg199_ => ?_)
              ·
               replace h := h.1 hg199_
               refine HS_pass rfl rfl ?_
               refine HS_pass rfl rfl ?_
               refine HS_passL rfl rfl ?_
               refine HS_passL rfl rfl ?_
               refine HS_passL rfl rfl ?_
               refine HS_pass rfl rfl ?_
               refine HSp (R_pick_true rfl rfl) rfl rfl (HSp (R_pick_true rfl rfl) rfl rfl ?_)
               refine HS_nil ?_
               clear hops195_
               refine then_n ?_
               exact ⟨_, rfl, ⟨true, y197_o0, A197_o0_1, c197_o0_1, y197_o1, y197_o2, A197_o2_1, c197_o2_1, A197_o2_2, c197_o2_2, A197_o2_3, c197_o2_3, y198_o0, A198_o0_1, c198_o0_1, y198_o1, y198_o2, A198_o2_1, c198_o2_1, A198_o2_2, c198_o2_2, A198_o2_3, c198_o2_3, _, _, rfl, h, hI, hll194_, hhh194_, ht197_o0, hc197_o0_1, hs197_o0_1, ht197_o1, ht197_o2, hc197_o2_1, hs197_o2_1, hc197_o2_2, hs197_o2_2, hc197_o2_3, hs197_o2_3, ht198_o0, hc198_o0_1, hs198_o0_1, ht198_o1, ht198_o2, hc198_o2_1, hs198_o2_1, hc198_o2_2, hs198_o2_2, hc198_o2_3, hs198_o2_3, trivial⟩, ⟨rfl, rfl, rfl, rfl, rfl, trivial⟩⟩
              ·
               replace h := h.2 hg199_
               refine HSp (R_move rfl) rfl rfl (HSp (R_move rfl) rfl rfl ?_)
               refine HS_call [] _ rfl (by rw [hops195_]; kernel_rfl) (C_func bd16 rfl) rfl rfl ?_
               refine (sealskinlaw06_records_ok (z0 := y197_o0) (z1 := y197_o1) (z2 := y197_o2) hI.st (hg.up hI.le) ht197_o1 ht197_o2 hc197_o2_1 hs197_o2_1 hc197_o2_2 hs197_o2_2 hc197_o2_3 hs197_o2_3 ht197_o0 hc197_o0_1 hs197_o0_1 h).mono ?_
               rintro _ w200_ ⟨A200_0, c200_0, r200_0, L200_, H200_, rfl, hI200_, ho200_0, h⟩
               refine Exists.elim (hI.call hI200_ (by simp)) fun L2000_ h200_ => ?_
               have hz200_ := hI.size
               replace hI := h200_.1
               have u200_ := h200_.2.1
               have hl200_ := h200_.2.2
               clear h200_
               replace hs3 := hs3.up u200_.hh
               replace hll183_ := hll183_.trans u200_.ll
               replace hhh183_ := hhh183_.trans u200_.hh
               replace hll185_ := hll185_.trans u200_.ll
               replace hhh185_ := hhh185_.trans u200_.hh
               replace hs191_1 := hs191_1.up u200_.hh
               replace ht192_ := ht192_.up u200_ (by simp)
               replace hll194_ := hll194_.trans u200_.ll
               replace hhh194_ := hhh194_.trans u200_.hh
               replace ht197_o0 := ht197_o0.up u200_ (by simp)
               replace hs197_o0_1 := hs197_o0_1.up u200_.hh
               replace ht197_o1 := ht197_o1.up u200_.hh u200_ (by simp)
               replace ht197_o2 := ht197_o2.up u200_ (by simp)
               replace hs197_o2_1 := hs197_o2_1.up u200_.hh
               replace hs197_o2_2 := hs197_o2_2.up u200_.hh
               replace hs197_o2_3 := hs197_o2_3.up u200_.hh
               replace ht198_o0 := ht198_o0.up u200_ (by simp)
               replace hs198_o0_1 := hs198_o0_1.up u200_.hh
               replace ht198_o1 := ht198_o1.up u200_.hh u200_ (by simp)
               replace ht198_o2 := ht198_o2.up u200_ (by simp)
               replace hs198_o2_1 := hs198_o2_1.up u200_.hh
               replace hs198_o2_2 := hs198_o2_2.up u200_.hh
               replace hs198_o2_3 := hs198_o2_3.up u200_.hh
               replace ho200_0 := OwnS.back ho200_0 hz200_ hl200_ (Le.refl _)
               clear hI200_ u200_ hl200_
               refine ⟨_, rfl, trivial, ?_⟩
               refine Exists.elim (ho200_0.freeze hI) fun L201_ h201_ => Exists.elim h201_ fun H201_ h201_ => ?_
               replace hI := h201_.1
               have u201_ := h201_.2.1
               have hs201_ := h201_.2.2.1 (Le.refl _)
               have hc201_ := ho200_0.cap
               replace hs3 := hs3.up u201_.hh
               replace hll183_ := hll183_.trans u201_.ll
               replace hhh183_ := hhh183_.trans u201_.hh
               replace hll185_ := hll185_.trans u201_.ll
               replace hhh185_ := hhh185_.trans u201_.hh
               replace hs191_1 := hs191_1.up u201_.hh
               replace ht192_ := ht192_.up u201_ (ht192_.sep ho200_0 (by decide))
               replace hll194_ := hll194_.trans u201_.ll
               replace hhh194_ := hhh194_.trans u201_.hh
               replace ht197_o0 := ht197_o0.up u201_ (ht197_o0.sep ho200_0 (by decide))
               replace hs197_o0_1 := hs197_o0_1.up u201_.hh
               replace ht197_o1 := ht197_o1.up u201_.hh u201_ (ht197_o1.neO ho200_0)
               replace ht197_o2 := ht197_o2.up u201_ (ht197_o2.sep ho200_0 (by decide))
               replace hs197_o2_1 := hs197_o2_1.up u201_.hh
               replace hs197_o2_2 := hs197_o2_2.up u201_.hh
               replace hs197_o2_3 := hs197_o2_3.up u201_.hh
               replace ht198_o0 := ht198_o0.up u201_ (ht198_o0.sep ho200_0 (by decide))
               replace hs198_o0_1 := hs198_o0_1.up u201_.hh
               replace ht198_o1 := ht198_o1.up u201_.hh u201_ (ht198_o1.neO ho200_0)
               replace ht198_o2 := ht198_o2.up u201_ (ht198_o2.sep ho200_0 (by decide))
               replace hs198_o2_1 := hs198_o2_1.up u201_.hh
               replace hs198_o2_2 := hs198_o2_2.up u201_.hh
               replace hs198_o2_3 := hs198_o2_3.up u201_.hh
               clear h201_ u201_ ho200_0
               refine HS_call [] _ rfl (by rw [hops195_]; kernel_rfl) (C_func bd16 rfl) rfl rfl ?_
               refine (sealskinlaw06_records_ok (z0 := y198_o0) (z1 := y198_o1) (z2 := y198_o2) hI.st (hg.up hI.le) ht198_o1 ht198_o2 hc198_o2_1 hs198_o2_1 hc198_o2_2 hs198_o2_2 hc198_o2_3 hs198_o2_3 ht198_o0 hc198_o0_1 hs198_o0_1 h).mono ?_
               rintro _ w202_ ⟨A202_0, c202_0, r202_0, L202_, H202_, rfl, hI202_, ho202_0, h⟩
               refine Exists.elim (hI.call hI202_ (by simp)) fun L2020_ h202_ => ?_
               have hz202_ := hI.size
               replace hI := h202_.1
               have u202_ := h202_.2.1
               have hl202_ := h202_.2.2
               clear h202_
               replace hs3 := hs3.up u202_.hh
               replace hll183_ := hll183_.trans u202_.ll
               replace hhh183_ := hhh183_.trans u202_.hh
               replace hll185_ := hll185_.trans u202_.ll
               replace hhh185_ := hhh185_.trans u202_.hh
               replace hs191_1 := hs191_1.up u202_.hh
               replace ht192_ := ht192_.up u202_ (by simp)
               replace hll194_ := hll194_.trans u202_.ll
               replace hhh194_ := hhh194_.trans u202_.hh
               replace ht197_o0 := ht197_o0.up u202_ (by simp)
               replace hs197_o0_1 := hs197_o0_1.up u202_.hh
               replace ht197_o1 := ht197_o1.up u202_.hh u202_ (by simp)
               replace ht197_o2 := ht197_o2.up u202_ (by simp)
               replace hs197_o2_1 := hs197_o2_1.up u202_.hh
               replace hs197_o2_2 := hs197_o2_2.up u202_.hh
               replace hs197_o2_3 := hs197_o2_3.up u202_.hh
               replace ht198_o0 := ht198_o0.up u202_ (by simp)
               replace hs198_o0_1 := hs198_o0_1.up u202_.hh
               replace ht198_o1 := ht198_o1.up u202_.hh u202_ (by simp)
               replace ht198_o2 := ht198_o2.up u202_ (by simp)
               replace hs198_o2_1 := hs198_o2_1.up u202_.hh
               replace hs198_o2_2 := hs198_o2_2.up u202_.hh
               replace hs198_o2_3 := hs198_o2_3.up u202_.hh
               replace hs201_ := hs201_.up u202_.ll
               replace ho202_0 := OwnS.back ho202_0 hz202_ hl202_ (Le.refl _)
               clear hI202_ u202_ hl202_
               refine ⟨_, rfl, trivial, ?_⟩
               refine Exists.elim (ho202_0.freeze hI) fun L203_ h203_ => Exists.elim h203_ fun H203_ h203_ => ?_
               replace hI := h203_.1
               have u203_ := h203_.2.1
               have hs203_ := h203_.2.2.1 (Le.refl _)
               have hc203_ := ho202_0.cap
               replace hs3 := hs3.up u203_.hh
               replace hll183_ := hll183_.trans u203_.ll
               replace hhh183_ := hhh183_.trans u203_.hh
               replace hll185_ := hll185_.trans u203_.ll
               replace hhh185_ := hhh185_.trans u203_.hh
               replace hs191_1 := hs191_1.up u203_.hh
               replace ht192_ := ht192_.up u203_ (ht192_.sep ho202_0 (by decide))
               replace hll194_ := hll194_.trans u203_.ll
               replace hhh194_ := hhh194_.trans u203_.hh
               replace ht197_o0 := ht197_o0.up u203_ (ht197_o0.sep ho202_0 (by decide))
               replace hs197_o0_1 := hs197_o0_1.up u203_.hh
               replace ht197_o1 := ht197_o1.up u203_.hh u203_ (ht197_o1.neO ho202_0)
               replace ht197_o2 := ht197_o2.up u203_ (ht197_o2.sep ho202_0 (by decide))
               replace hs197_o2_1 := hs197_o2_1.up u203_.hh
               replace hs197_o2_2 := hs197_o2_2.up u203_.hh
               replace hs197_o2_3 := hs197_o2_3.up u203_.hh
               replace ht198_o0 := ht198_o0.up u203_ (ht198_o0.sep ho202_0 (by decide))
               replace hs198_o0_1 := hs198_o0_1.up u203_.hh
               replace ht198_o1 := ht198_o1.up u203_.hh u203_ (ht198_o1.neO ho202_0)
               replace ht198_o2 := ht198_o2.up u203_ (ht198_o2.sep ho202_0 (by decide))
               replace hs198_o2_1 := hs198_o2_1.up u203_.hh
               replace hs198_o2_2 := hs198_o2_2.up u203_.hh
               replace hs198_o2_3 := hs198_o2_3.up u203_.hh
               replace hs201_ := hs201_.up u203_.ll
               clear h203_ u203_ ho202_0
               refine HS_call [] _ rfl (by rw [hops195_]; kernel_rfl) (C_func bd23 rfl) rfl rfl ?_
               refine (slices_Equal_sealskinref06_Record_sealskinref06_Record_ok (x0 := r200_0) (x1 := r202_0) hI.st (hg.up hI.le) hc201_ (hs201_.up hI.sub) hc203_ (hs203_.up hI.sub) h).mono ?_
               rintro _ w204_ ⟨r204_0, L204_, H204_, rfl, hI204_, h⟩
               refine Exists.elim (hI.call hI204_ (by simp)) fun L2040_ h204_ => ?_
               have hz204_ := hI.size
               replace hI := h204_.1
               have u204_ := h204_.2.1
               have hl204_ := h204_.2.2
               clear h204_
               replace hs3 := hs3.up u204_.hh
               replace hll183_ := hll183_.trans u204_.ll
               replace hhh183_ := hhh183_.trans u204_.hh
               replace hll185_ := hll185_.trans u204_.ll
               replace hhh185_ := hhh185_.trans u204_.hh
               replace hs191_1 := hs191_1.up u204_.hh
               replace ht192_ := ht192_.up u204_ (by simp)
               replace hll194_ := hll194_.trans u204_.ll
               replace hhh194_ := hhh194_.trans u204_.hh
               replace ht197_o0 := ht197_o0.up u204_ (by simp)
               replace hs197_o0_1 := hs197_o0_1.up u204_.hh
               replace ht197_o1 := ht197_o1.up u204_.hh u204_ (by simp)
               replace ht197_o2 := ht197_o2.up u204_ (by simp)
               replace hs197_o2_1 := hs197_o2_1.up u204_.hh
               replace hs197_o2_2 := hs197_o2_2.up u204_.hh
               replace hs197_o2_3 := hs197_o2_3.up u204_.hh
               replace ht198_o0 := ht198_o0.up u204_ (by simp)
               replace hs198_o0_1 := hs198_o0_1.up u204_.hh
               replace ht198_o1 := ht198_o1.up u204_.hh u204_ (by simp)
               replace ht198_o2 := ht198_o2.up u204_ (by simp)
               replace hs198_o2_1 := hs198_o2_1.up u204_.hh
               replace hs198_o2_2 := hs198_o2_2.up u204_.hh
               replace hs198_o2_3 := hs198_o2_3.up u204_.hh
               replace hs201_ := hs201_.up u204_.ll
               replace hs203_ := hs203_.up u204_.ll
               clear hI204_ u204_ hl204_
               refine ⟨_, rfl, trivial, ?_⟩
               refine HSp (R_not rfl) rfl rfl (HSp (R_pick_false rfl rfl) rfl rfl (HSp (R_pick_true rfl rfl) rfl rfl ?_))
               refine HS_nil ?_
               clear hops195_
               refine then_n ?_
               exact ⟨_, rfl, ⟨(!r204_0), y197_o0, A197_o0_1, c197_o0_1, y197_o1, y197_o2, A197_o2_1, c197_o2_1, A197_o2_2, c197_o2_2, A197_o2_3, c197_o2_3, y198_o0, A198_o0_1, c198_o0_1, y198_o1, y198_o2, A198_o2_1, c198_o2_1, A198_o2_2, c198_o2_2, A198_o2_3, c198_o2_3, _, _, rfl, h, hI, hll194_, hhh194_, ht197_o0, hc197_o0_1, hs197_o0_1, ht197_o1, ht197_o2, hc197_o2_1, hs197_o2_1, hc197_o2_2, hs197_o2_2, hc197_o2_3, hs197_o2_3, ht198_o0, hc198_o0_1, hs198_o0_1, ht198_o1, ht198_o2, hc198_o2_1, hs198_o2_1, hc198_o2_2, hs198_o2_2, hc198_o2_3, hs198_o2_3, trivial⟩, ⟨rfl, rfl, rfl, rfl, rfl, trivial⟩⟩
             ·
              replace h := h.2 hg196_
              refine HS_pass rfl rfl ?_
              refine HS_pass rfl rfl ?_
              refine HS_pass rfl rfl ?_
              refine HS_pass rfl rfl ?_
              refine HS_pass rfl rfl ?_
              refine HS_pass rfl rfl ?_
              refine HS_pass rfl rfl ?_
              refine HS_pass rfl rfl ?_
              refine HS_pass rfl rfl ?_
              refine HS_pass rfl rfl ?_
              refine HS_passL rfl rfl ?_
              refine HS_passL rfl rfl ?_
              refine HS_pass rfl rfl ?_
              refine HS_pass rfl rfl ?_
              refine HS_passU rfl rfl ?_
              refine HS_passU rfl rfl ?_
              refine HS_passLU rfl rfl ?_
              refine HS_passLU rfl rfl ?_
              refine HS_passLU rfl rfl ?_
              refine HS_passU rfl rfl ?_
              refine HS_pass rfl rfl ?_
              refine HSp (R_pick_false rfl rfl) rfl rfl ?_
              refine HS_nil ?_
              clear hops195_
              refine then_n ?_
              exact ⟨_, rfl, ⟨false, yo1_31b_185, Ao1_31b_185_1, co1_31b_185_1, yo2_31b_185, yo0_13b_185, Ao0_13b_185_1, co0_13b_185_1, Ao0_13b_185_2, co0_13b_185_2, Ao0_13b_185_3, co0_13b_185_3, yo1_132b_185, Ao1_132b_185_1, co1_132b_185_1, yo2_132b_185, yo1_131_185, Ao1_131_185_1, co1_131_185_1, Ao1_131_185_2, co1_131_185_2, Ao1_131_185_3, co1_131_185_3, _, _, rfl, h, hI, hll194_, hhh194_, hto1_31b_185, hco1_31b_185_1, hso1_31b_185_1, hto2_31b_185, hto0_13b_185, hco0_13b_185_1, hso0_13b_185_1, hco0_13b_185_2, hso0_13b_185_2, hco0_13b_185_3, hso0_13b_185_3, hto1_132b_185, hco1_132b_185_1, hso1_132b_185_1, hto2_132b_185, hto1_131_185, hco1_131_185_1, hso1_131_185_1, hco1_131_185_2, hso1_131_185_2, hco1_131_185_3, hso1_131_185_3, trivial⟩, ⟨rfl, rfl, rfl, rfl, rfl, trivial⟩⟩
            ·
             simp only [e_, Nat.reduceAdd, Nat.reduceBEq] at b_
             subst b_
             clear h
             rintro _ w194_ ⟨x120_194, yo1_31b_194, Ao1_31b_194_1, co1_31b_194_1, yo2_31b_194, yo0_13b_194, Ao0_13b_194_1, co0_13b_194_1, Ao0_13b_194_2, co0_13b_194_2, Ao0_13b_194_3, co0_13b_194_3, yo1_132b_194, Ao1_132b_194_1, co1_132b_194_1, yo2_132b_194, yo1_131_194, Ao1_131_194_1, co1_131_194_1, Ao1_131_194_2, co1_131_194_2, Ao1_131_194_3, co1_131_194_3, L194_, H194_, rfl, hJ194_, hI194_, hll194_, hhh194_, hto1_31b_194, hco1_31b_194_1, hso1_31b_194_1, hto2_31b_194, hto0_13b_194, hco0_13b_194_1, hso0_13b_194_1, hco0_13b_194_2, hso0_13b_194_2, hco0_13b_194_3, hso0_13b_194_3, hto1_132b_194, hco1_132b_194_1, hso1_132b_194_1, hto2_132b_194, hto1_131_194, hco1_131_194_1, hso1_131_194_1, hco1_131_194_2, hso1_131_194_2, hco1_131_194_3, hso1_131_194_3, -⟩
             replace hI := hI194_
             clear hI194_
             have h := hr194_ x120_194 yo1_31b_194 yo2_31b_194 yo0_13b_194 yo1_132b_194 yo2_132b_194 yo1_131_194 hJ194_
             clear hr194_ hJ194_
             replace hs3 := hs3.up hhh194_
             replace hll183_ := hll183_.trans hll194_
             replace hhh183_ := hhh183_.trans hhh194_
             replace hll185_ := hll185_.trans hll194_
             replace hhh185_ := hhh185_.trans hhh194_
             refine W_cond rfl (fun hc205_ => ?_) (fun hc205_ => ?_)
             ·
              replace h := h.1 hc205_
              refine W_seq_k fun K206 k206 => ?_
              refine W_region [8] rfl (Ops_step (R_assign rfl) rfl rfl ?_)
              refine Ops_nil ?_
              refine then_n (k206 _ _ ?_)
              clear k206 K206
              refine W_keepB [8] fun B_ b_ => ?_
              simp only [e_, Nat.reduceAdd, Nat.reduceBEq] at b_
              subst b_
              refine W_ret ?_
              refine block_ret ?_
              refine then_ret ?_
              clear k189 K189
              refine then_ret ?_
              refine block_ret ?_
              refine then_ret ?_
              refine ⟨_, ⟨_, _, rfl, rfl, rfl⟩, ?_⟩
              exact ⟨false, _, _, rfl, hI, h⟩
             ·
              replace h := h.2 hc205_
              refine W_skip ?_
              refine block_n ?_
              refine then_n (k189 _ _ ?_)
              clear k189 K189
              refine W_region [121, 90] rfl ?_
              have hk208_ := h.1
              replace h := h.2
              refine Ops_step (R_add rfl rfl (wI hk208_.1 hk208_.2)) rfl rfl (Ops_step (R_move rfl) rfl rfl ?_)
              refine Ops_nil ?_
              refine then_n ?_
              exact h.elim fun m_ h => ⟨m_, _, h.1, rfl, ⟨(x90_185 + 1), yo1_31b_194, Ao1_31b_194_1, co1_31b_194_1, yo2_31b_194, yo0_13b_194, Ao0_13b_194_1, co0_13b_194_1, Ao0_13b_194_2, co0_13b_194_2, Ao0_13b_194_3, co0_13b_194_3, yo1_132b_194, Ao1_132b_194_1, co1_132b_194_1, yo2_132b_194, yo1_131_194, Ao1_131_194_1, co1_131_194_1, Ao1_131_194_2, co1_131_194_2, Ao1_131_194_3, co1_131_194_3, _, _, rfl, h.2, hI, hll185_, hhh185_, hto1_31b_194, hco1_31b_194_1, hso1_31b_194_1, hto2_31b_194, hto0_13b_194, hco0_13b_194_1, hso0_13b_194_1, hco0_13b_194_2, hso0_13b_194_2, hco0_13b_194_3, hso0_13b_194_3, hto1_132b_194, hco1_132b_194_1, hso1_132b_194_1, hto2_132b_194, hto1_131_194, hco1_131_194_1, hso1_131_194_1, hco1_131_194_2, hso1_131_194_2, hco1_131_194_3, hso1_131_194_3, trivial⟩, ⟨rfl, rfl, rfl, rfl, trivial⟩⟩
           ·
            replace h := h.2 hc188_
            refine W_exit ?_
            refine then_exit ?_
            clear k187 K187
            refine then_exit ?_
            refine block_exit ?_
            refine then_n ?_
            exact ⟨_, rfl, ⟨_, _, rfl, h, hI, hll183_, hhh183_, trivial⟩, trivial⟩
          ·
           simp only [e_, Nat.reduceAdd, Nat.reduceBEq] at b_
           subst b_
           clear h
           rintro _ w183_ ⟨L183_, H183_, rfl, hJ183_, hI183_, hll183_, hhh183_, -⟩
           replace hI := hI183_
           clear hI183_
           have h := hr183_ hJ183_
           clear hr183_ hJ183_
           refine W_seq_k fun K209 k209 => ?_
           refine W_region [122, 8] rfl ?_
           refine Ops_call (C_func bd12 rfl) rfl rfl ?_
           refine (sealskinlaw06_awake_ok  hI.st (hg.up hI.le)  h).mono ?_
           rintro _ w210_ ⟨r210_0, L210_, H210_, rfl, hI210_, h⟩
           refine Exists.elim (hI.call hI210_ (by simp)) fun L2100_ h210_ => ?_
           have hz210_ := hI.size
           replace hI := h210_.1
           have u210_ := h210_.2.1
           have hl210_ := h210_.2.2
           clear h210_
           clear hI210_ u210_ hl210_
           refine ⟨_, rfl, ?_⟩
           refine Ops_step (R_assign rfl) rfl rfl ?_
           refine Ops_nil ?_
           refine then_n (k209 _ _ ?_)
           clear k209 K209
           refine W_ret ?_
           refine ⟨_, ⟨_, _, rfl, rfl, rfl⟩, ?_⟩
           exact ⟨r210_0, _, _, rfl, hI, h⟩

end Go.Proofs.Ytkmljjhjojolcaa

