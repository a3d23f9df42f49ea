/- What is shown of the program on the way to the law. -/
import Derived.Test.YtkmljjhjojolcaaZo3
import Derived.Test.YtkmljjhjojolcaaZo4
import Derived.Test.YtkmljjhjojolcaaZo5
import Derived.Test.YtkmljjhjojolcaaZo7
import Derived.Test.YtkmljjhjojolcaaZo9
import Derived.Test.YtkmljjhjojolcaaZo10
import Derived.Test.YtkmljjhjojolcaaZo11
import Derived.Test.YtkmljjhjojolcaaZo12
import Derived.Test.YtkmljjhjojolcaaZo15
import Derived.Test.YtkmljjhjojolcaaProg
set_option linter.unusedVariables false
set_option linter.unusedSimpArgs false
set_option maxHeartbeats 4000000
namespace Go.Proofs.Ytkmljjhjojolcaa
open Go Go.Sx Go.Lx
namespace TJmOpens
theorem hm : Try.prog.follows .mixedOrders = true := by kernel_rfl
theorem ag29 : aggB Try.prog 29 = some false := by kernel_rfl
theorem ag36 : aggB Try.prog 36 = some false := by kernel_rfl
theorem bd12 : bodied Try.prog 12 = true := by kernel_rfl
theorem bd16 : bodied Try.prog 16 = true := by kernel_rfl
theorem bd20 : bodied Try.prog 20 = true := by kernel_rfl
theorem bd23 : bodied Try.prog 23 = true := by kernel_rfl
theorem bd24 : bodied Try.prog 24 = true := by kernel_rfl
theorem bd25 : bodied Try.prog 25 = true := by kernel_rfl
theorem bd26 : bodied Try.prog 26 = true := by kernel_rfl
theorem bd27 : bodied Try.prog 27 = true := by kernel_rfl
theorem bd28 : bodied Try.prog 28 = true := by kernel_rfl
theorem bd29 : bodied Try.prog 29 = true := by kernel_rfl
theorem el67 : Elem Try.prog 67 29 1 24 := Elem.of (by kernel_rfl)
theorem fo73_0 : offB Try.prog 73 0 = some 0 := by kernel_rfl
theorem sz29 : sz Try.prog 29 = some 1 := by kernel_rfl
theorem zr29 : zr Try.prog 29 = some ([.slice none 0 0]) := by kernel_rfl
end TJmOpens
open TJmOpens
theorem sealskinlaw06_JournalOpens_ok {G : Gh} {w : World} (hS : St G w) (hg : GL G) {A0 : Option Addr} {c0 : Nat} {x0 : List UInt8} (hc0 : x0.length ≤ c0) (hs0 : Sl G A0 x0) {A1 : Option Addr} {c1 : Nat} {x1 : List UInt8} (hc1 : x1.length ≤ c1) (hs1 : Sl G A1 x1) {A2 : Option Addr} {c2 : Nat} {x2 : List UInt8} (hc2 : x2.length ≤ c2) (hs2 : Sl G A2 x2) {Q : Bool → Prop} (h : sealskinlaw06_JournalOpens x0 x1 x2 Q) : Calls Try.prog 6 #[.slice A0 x0.length c0, .slice A1 x1.length c1, .slice A2 x2.length c2] w fun e w2 => ∃ (r0 : Bool) (L H : Gh), e = .returned (.bool r0) ∧ Inv [] G w L H w2 ∧ Q r0 := by
 unfold sealskinlaw06_JournalOpens at h
 have hI := Inv.start (M := []) hS
 refine calls_W 98 Try.func6 rfl Try.ntmps6 rfl [.tmp 6] rfl ?_
 refine W_seq_k fun K1 k1 => ?_
 refine W_region [6] rfl (Ops_step (R_assign rfl) rfl rfl ?_)
 refine Ops_nil ?_
 refine then_n (k1 _ _ ?_)
 clear k1 K1
 refine W_seq_k fun K2 k2 => ?_
 refine ex_ h fun J3_ hr3_ h => ?_
 refine W_seq_join [0, 1, 2] [29] (fun vals_ w2 => ∃ (x29_3 : Bool) (L H : Gh), vals_ = [.bool x29_3] ∧ J3_ x29_3 ∧ Inv [] G w L H w2 ∧ Le Gh.no L ∧ Le G H ∧ True) (fun B_ b_ => ?_) (fun B_ b_ => ?_)
 ·
  simp only [e_, Nat.reduceAdd, Nat.reduceBEq] at b_
  subst b_
  clear hr3_
  have hll3_ := Le.refl Gh.no
  have hhh3_ := Le.refl G
  refine W_region [17, 18, 19, 20, 21, 22, 23, 24, 25, 26, 27, 28, 29] rfl (Ops_step (R_move rfl) rfl rfl (Ops_step (R_len Try.underlying29 rfl rfl) rfl rfl (Ops_step (R_gtr rfl rfl) rfl rfl (Ops_step (R_move rfl) rfl rfl ?_))))
  refine Ops_split 20 rfl (fun hg4_ => ?_) (fun hg4_ => ?_)
  ·
   replace h := h.1 hg4_
   refine Ops_pass rfl rfl (Ops_pass rfl rfl (Ops_pass rfl rfl (Ops_step (R_pick_true rfl rfl) rfl rfl (Ops_step (R_move rfl) rfl rfl ?_))))
   refine Ops_pass rfl rfl (Ops_pass rfl rfl (Ops_pass rfl rfl (Ops_step (R_pick_true rfl rfl) rfl rfl ?_)))
   refine Ops_nil ?_
   refine then_n ?_
   exact ⟨_, rfl, ⟨true, _, _, rfl, h, hI, hll3_, hhh3_, trivial⟩, ⟨rfl, rfl, rfl, trivial⟩⟩
  ·
   replace h := h.2 hg4_
   refine Ops_step (R_move rfl) rfl rfl (Ops_step (R_len Try.underlying29 rfl rfl) rfl rfl (Ops_step (R_gtr rfl rfl) rfl rfl (Ops_step (R_pick_false rfl rfl) rfl rfl (Ops_step (R_move rfl) rfl rfl ?_))))
   refine Ops_split 25 rfl (fun hg5_ => ?_) (fun hg5_ => ?_)
   ·
    replace h := h.1 hg5_
    refine Ops_pass rfl rfl (Ops_pass rfl rfl (Ops_pass rfl rfl (Ops_step (R_pick_true rfl rfl) rfl rfl ?_)))
    refine Ops_nil ?_
    refine then_n ?_
    exact ⟨_, rfl, ⟨true, _, _, rfl, h, hI, hll3_, hhh3_, trivial⟩, ⟨rfl, rfl, rfl, trivial⟩⟩
   ·
    replace h := h.2 hg5_
    refine Ops_step (R_move rfl) rfl rfl (Ops_step (R_len Try.underlying29 rfl rfl) rfl rfl (Ops_step (R_gtr rfl rfl) rfl rfl (Ops_step (R_pick_false rfl rfl) rfl rfl ?_)))
    refine Ops_nil ?_
    refine then_n ?_
    exact ⟨_, rfl, ⟨(decide ((x2.length : Int) > 16384)), _, _, rfl, h, hI, hll3_, hhh3_, trivial⟩, ⟨rfl, rfl, rfl, trivial⟩⟩
 ·
  simp only [e_, Nat.reduceAdd, Nat.reduceBEq] at b_
  subst b_
  clear h
  rintro _ w3_ ⟨x29_3, L3_, H3_, rfl, hJ3_, hI3_, hll3_, hhh3_, -⟩
  replace hI := hI3_
  clear hI3_
  have h := hr3_ x29_3 hJ3_
  clear hr3_ hJ3_
  replace hs0 := hs0.up hhh3_
  replace hs1 := hs1.up hhh3_
  replace hs2 := hs2.up hhh3_
  refine W_cond rfl (fun hc6_ => ?_) (fun hc6_ => ?_)
  ·
   replace h := h.1 hc6_
   refine W_seq_k fun K7 k7 => ?_
   refine W_region [30, 6] rfl ?_
   refine Ops_call (C_func bd12 rfl) rfl rfl ?_
   refine (sealskinlaw06_awake_ok  hI.st (hg.up hI.le)  h).mono ?_
   rintro _ w8_ ⟨r8_0, L8_, H8_, rfl, hI8_, h⟩
   refine Exists.elim (hI.call hI8_ (by simp)) fun L80_ h8_ => ?_
   have hz8_ := hI.size
   replace hI := h8_.1
   have u8_ := h8_.2.1
   have hl8_ := h8_.2.2
   clear h8_
   clear hI8_ u8_ hl8_
   refine ⟨_, rfl, ?_⟩
   refine Ops_step (R_assign rfl) rfl rfl ?_
   refine Ops_nil ?_
   refine then_n (k7 _ _ ?_)
   clear k7 K7
   refine W_ret ?_
   refine then_ret ?_
   clear k2 K2
   refine ⟨_, ⟨_, _, rfl, rfl, rfl⟩, ?_⟩
   exact ⟨r8_0, _, _, rfl, hI, h⟩
  ·
   replace h := h.2 hc6_
   refine W_skip ?_
   refine then_n (k2 _ _ ?_)
   clear k2 K2
   refine W_seq_k fun K9 k9 => ?_
   refine W_region [32, 31, 33, 34, 7, 8] rfl ?_
   refine Ops_call (C_func bd24 rfl) rfl rfl ?_
   refine (disk_New_ok (x0 := 8388608) hI.st (hg.up hI.le)  h).mono ?_
   rintro _ w10_ (⟨r10a_1, L10a_, H10a_, rfl, hI10a_, h⟩ | ⟨r10b_1, o0_10b, y10b_o0, A10b_o0_1, c10b_o0_1, A10b_o0_2, c10b_o0_2, A10b_o0_3, c10b_o0_3, L10b_, H10b_, rfl, hI10b_, hge_o0_10b, ht10b_o0, hc10b_o0_1, hs10b_o0_1, hc10b_o0_2, hs10b_o0_2, hc10b_o0_3, hs10b_o0_3, h⟩)
   ·
    exact h.elim
   ·
    have hge0_o0_10b := hge_o0_10b
    replace hge_o0_10b := Nat.le_trans hI.size hge_o0_10b
    refine Exists.elim (hI.call hI10b_ (by simp)) fun L10b0_ h10b_ => ?_
    have hz10b_ := hI.size
    replace hI := h10b_.1
    have u10b_ := h10b_.2.1
    have hl10b_ := h10b_.2.2
    clear h10b_
    replace hs0 := hs0.up u10b_.hh
    replace hs1 := hs1.up u10b_.hh
    replace hs2 := hs2.up u10b_.hh
    clear hI10b_ u10b_ hl10b_
    refine ⟨_, rfl, ?_⟩
    refine Ops_step (R_move rfl) rfl rfl ?_
    refine Ops_step (R_extract (v := .pointer (some ⟨o0_10b, 0, none⟩)) rfl rfl) rfl rfl ?_
    refine Ops_step (R_extract (v := vi r10b_1) rfl rfl) rfl rfl ?_
    refine Ops_step (R_assign rfl) rfl rfl (Ops_step (R_assign rfl) rfl rfl ?_)
    refine Ops_nil ?_
    refine then_n (k9 _ _ ?_)
    clear k9 K9
    refine W_keepB [0, 1, 2, 7] fun B_ b_ => ?_
    simp only [e_, Nat.reduceAdd, Nat.reduceBEq] at b_
    subst b_
    refine W_seq_k fun K12 k12 => ?_
    refine W_region [36, 35, 37, 38, 9, 10] rfl ?_
    refine Ops_call (C_func bd25 rfl) rfl rfl ?_
    refine (sealskinref05_New_ok (x0 := 8388608) hI.st (hg.up hI.le)  h).mono ?_
    rintro _ w13_ (⟨r13a_1, L13a_, H13a_, rfl, hI13a_, h⟩ | ⟨r13b_1, o0_13b, y13b_o0, A13b_o0_1, c13b_o0_1, A13b_o0_2, c13b_o0_2, A13b_o0_3, c13b_o0_3, L13b_, H13b_, rfl, hI13b_, hge_o0_13b, ht13b_o0, hc13b_o0_1, hs13b_o0_1, hc13b_o0_2, hs13b_o0_2, hc13b_o0_3, hs13b_o0_3, h⟩)
    ·
     exact h.elim
    ·
     have hge0_o0_13b := hge_o0_13b
     replace hge_o0_13b := Nat.le_trans hI.size hge_o0_13b
     refine Exists.elim (hI.call hI13b_ (by simp)) fun L13b0_ h13b_ => ?_
     have hz13b_ := hI.size
     replace hI := h13b_.1
     have u13b_ := h13b_.2.1
     have hl13b_ := h13b_.2.2
     clear h13b_
     replace hs0 := hs0.up u13b_.hh
     replace hs1 := hs1.up u13b_.hh
     replace hs2 := hs2.up u13b_.hh
     replace ht10b_o0 := ht10b_o0.up u13b_ (by simp)
     replace hs10b_o0_1 := hs10b_o0_1.up u13b_.hh
     replace hs10b_o0_2 := hs10b_o0_2.up u13b_.hh
     replace hs10b_o0_3 := hs10b_o0_3.up u13b_.hh
     clear hI13b_ u13b_ hl13b_
     refine ⟨_, rfl, ?_⟩
     refine Ops_step (R_move rfl) rfl rfl ?_
     refine Ops_step (R_extract (v := .pointer (some ⟨o0_13b, 0, none⟩)) rfl rfl) rfl rfl ?_
     refine Ops_step (R_extract (v := vi r13b_1) rfl rfl) rfl rfl ?_
     refine Ops_step (R_assign rfl) rfl rfl (Ops_step (R_assign rfl) rfl rfl ?_)
     refine Ops_nil ?_
     refine then_n (k12 _ _ ?_)
     clear k12 K12
     refine ex_ h fun J14_ hr14_ h => ?_
     refine W_seq_join [7, 9] [] (fun vals_ w2 => ∃ (yo0_10b_14 : disk_Disk) (Ao0_10b_14_1 : Option Addr) (co0_10b_14_1 : Nat) (Ao0_10b_14_2 : Option Addr) (co0_10b_14_2 : Nat) (Ao0_10b_14_3 : Option Addr) (co0_10b_14_3 : Nat) (yo0_13b_14 : sealskinref05_Disk) (Ao0_13b_14_1 : Option Addr) (co0_13b_14_1 : Nat) (Ao0_13b_14_2 : Option Addr) (co0_13b_14_2 : Nat) (Ao0_13b_14_3 : Option Addr) (co0_13b_14_3 : Nat) (L H : Gh), vals_ = [] ∧ J14_ yo0_10b_14 yo0_13b_14 ∧ Inv [] G w L H w2 ∧ Le L13b0_ L ∧ Le H13b_ H ∧ Tok H w2 o0_10b 53 ([.slice Ao0_10b_14_1 yo0_10b_14.files_.e0_.length co0_10b_14_1, .slice Ao0_10b_14_2 yo0_10b_14.files_.e1_.length co0_10b_14_2, .slice Ao0_10b_14_3 yo0_10b_14.files_.e2_.length co0_10b_14_3, vi yo0_10b_14.room_, .bool yo0_10b_14.off_, .bool yo0_10b_14.armed_, vi yo0_10b_14.left_]) ∧ yo0_10b_14.files_.e0_.length ≤ co0_10b_14_1 ∧ Sl H Ao0_10b_14_1 yo0_10b_14.files_.e0_ ∧ yo0_10b_14.files_.e1_.length ≤ co0_10b_14_2 ∧ Sl H Ao0_10b_14_2 yo0_10b_14.files_.e1_ ∧ yo0_10b_14.files_.e2_.length ≤ co0_10b_14_3 ∧ Sl H Ao0_10b_14_3 yo0_10b_14.files_.e2_ ∧ Tok H w2 o0_13b 81 ([.slice Ao0_13b_14_1 yo0_13b_14.F_.e0_.length co0_13b_14_1, .slice Ao0_13b_14_2 yo0_13b_14.F_.e1_.length co0_13b_14_2, .slice Ao0_13b_14_3 yo0_13b_14.F_.e2_.length co0_13b_14_3, vi yo0_13b_14.Room_, .bool yo0_13b_14.Off_, vi yo0_13b_14.Fuse_]) ∧ yo0_13b_14.F_.e0_.length ≤ co0_13b_14_1 ∧ Sl H Ao0_13b_14_1 yo0_13b_14.F_.e0_ ∧ yo0_13b_14.F_.e1_.length ≤ co0_13b_14_2 ∧ Sl H Ao0_13b_14_2 yo0_13b_14.F_.e1_ ∧ yo0_13b_14.F_.e2_.length ≤ co0_13b_14_3 ∧ Sl H Ao0_13b_14_3 yo0_13b_14.F_.e2_ ∧ True) (fun B_ b_ => ?_) (fun B_ b_ => ?_)
     ·
      simp only [e_, Nat.reduceAdd, Nat.reduceBEq] at b_
      subst b_
      clear hr14_
      have hll14_ := Le.refl L13b0_
      have hhh14_ := Le.refl H13b_
      refine W_seq_k fun K15 k15 => ?_
      refine W_region [39, 40, 41, 42, 43, 44] rfl (Ops_step (R_move rfl) rfl rfl (Ops_step (R_move rfl) rfl rfl (Ops_step (R_move rfl) rfl rfl ?_)))
      refine Ops_to (R_buildSlice el67 zr29 (by decide) (by decide) rfl rfl) rfl rfl ?_
      rintro _ w16_ ⟨b16_, rfl, hb16_, hB16_, hF16_⟩
      have ho16_ : OwnS w.heap.size 29 H13b_ H13b_ _ (some ⟨b16_, 0, none⟩) 3 ([x0, x1, x2] : List (List UInt8)) := OwnS.ofBlk (css := [[.slice A0 x0.length c0], [.slice A1 x1.length c1], [.slice A2 x2.length c2]]) hI.st hb16_ hB16_ (.cons ⟨A0, c0, rfl, hc0, hs0⟩ (.cons ⟨A1, c1, rfl, hc1, hs1⟩ (.cons ⟨A2, c2, rfl, hc2, hs2⟩ .nil))) rfl (by have := hI.size; omega) (by show 3 ≤ maxLen; decide)
      replace hI := hI.fr0 hF16_
      replace ht10b_o0 := ht10b_o0.fr0 hF16_
      replace ht13b_o0 := ht13b_o0.fr0 hF16_
      clear hF16_ hB16_
      refine Ops_step (R_len Try.underlying67 rfl rfl) rfl rfl (Ops_step (R_move rfl) rfl rfl ?_)
      refine Ops_nil ?_
      refine then_n (k15 _ _ ?_)
      clear k15 K15
      refine W_keepB [7, 9, 42, 43, 44] fun B_ b_ => ?_
      simp only [e_, Nat.reduceAdd, Nat.reduceBEq] at b_
      subst b_
      refine W_block ?_
      refine Exists.elim h fun I18_ h => Exists.elim h fun n18_ h => ?_
      have h0_ := h.1
      have hs18_ := h.2
      clear h
      refine Exists.elim (ho16_.freeze hI) fun L19_ h19_ => Exists.elim h19_ fun H19_ h19_ => ?_
      replace hI := h19_.1
      have u19_ := h19_.2.1
      have hs19_ := h19_.2.2.2 (Le.refl _)
      have hc19_ := ho16_.cap
      replace ht10b_o0 := ht10b_o0.up u19_ (ht10b_o0.sep ho16_ (by decide))
      replace hs10b_o0_1 := hs10b_o0_1.up u19_.hh
      replace hs10b_o0_2 := hs10b_o0_2.up u19_.hh
      replace hs10b_o0_3 := hs10b_o0_3.up u19_.hh
      replace ht13b_o0 := ht13b_o0.up u19_ (ht13b_o0.sep ho16_ (by decide))
      replace hs13b_o0_1 := hs13b_o0_1.up u19_.hh
      replace hs13b_o0_2 := hs13b_o0_2.up u19_.hh
      replace hs13b_o0_3 := hs13b_o0_3.up u19_.hh
      replace hll14_ := hll14_.trans u19_.ll
      replace hhh14_ := hhh14_.trans u19_.hh
      clear h19_ u19_ ho16_
      refine W_loopB [7, 9, 43] [42, 44] (fun m vals_ w2 => ∃ (x42_18 : List (List UInt8)) (A42_18 : Option Addr) (c42_18 : Nat) (x44_18 : Int) (yo0_10b_18 : disk_Disk) (Ao0_10b_18_1 : Option Addr) (co0_10b_18_1 : Nat) (Ao0_10b_18_2 : Option Addr) (co0_10b_18_2 : Nat) (Ao0_10b_18_3 : Option Addr) (co0_10b_18_3 : Nat) (yo0_13b_18 : sealskinref05_Disk) (Ao0_13b_18_1 : Option Addr) (co0_13b_18_1 : Nat) (Ao0_13b_18_2 : Option Addr) (co0_13b_18_2 : Nat) (Ao0_13b_18_3 : Option Addr) (co0_13b_18_3 : Nat) (L H : Gh), vals_ = [.slice A42_18 x42_18.length c42_18, vi x44_18] ∧ I18_ m x42_18 x44_18 yo0_10b_18 yo0_13b_18 ∧ Inv [] G w L H w2 ∧ Le L19_ L ∧ Le H19_ H ∧ x42_18.length ≤ c42_18 ∧ Sl H A42_18 x42_18 ∧ Tok H w2 o0_10b 53 ([.slice Ao0_10b_18_1 yo0_10b_18.files_.e0_.length co0_10b_18_1, .slice Ao0_10b_18_2 yo0_10b_18.files_.e1_.length co0_10b_18_2, .slice Ao0_10b_18_3 yo0_10b_18.files_.e2_.length co0_10b_18_3, vi yo0_10b_18.room_, .bool yo0_10b_18.off_, .bool yo0_10b_18.armed_, vi yo0_10b_18.left_]) ∧ yo0_10b_18.files_.e0_.length ≤ co0_10b_18_1 ∧ Sl H Ao0_10b_18_1 yo0_10b_18.files_.e0_ ∧ yo0_10b_18.files_.e1_.length ≤ co0_10b_18_2 ∧ Sl H Ao0_10b_18_2 yo0_10b_18.files_.e1_ ∧ yo0_10b_18.files_.e2_.length ≤ co0_10b_18_3 ∧ Sl H Ao0_10b_18_3 yo0_10b_18.files_.e2_ ∧ Tok H w2 o0_13b 81 ([.slice Ao0_13b_18_1 yo0_13b_18.F_.e0_.length co0_13b_18_1, .slice Ao0_13b_18_2 yo0_13b_18.F_.e1_.length co0_13b_18_2, .slice Ao0_13b_18_3 yo0_13b_18.F_.e2_.length co0_13b_18_3, vi yo0_13b_18.Room_, .bool yo0_13b_18.Off_, vi yo0_13b_18.Fuse_]) ∧ yo0_13b_18.F_.e0_.length ≤ co0_13b_18_1 ∧ Sl H Ao0_13b_18_1 yo0_13b_18.F_.e0_ ∧ yo0_13b_18.F_.e1_.length ≤ co0_13b_18_2 ∧ Sl H Ao0_13b_18_2 yo0_13b_18.F_.e1_ ∧ yo0_13b_18.F_.e2_.length ≤ co0_13b_18_3 ∧ Sl H Ao0_13b_18_3 yo0_13b_18.F_.e2_ ∧ True) n18_ _ rfl ⟨([x0, x1, x2] : List (List UInt8)), (some ⟨b16_, 0, none⟩), 3, 0, y10b_o0, A10b_o0_1, c10b_o0_1, A10b_o0_2, c10b_o0_2, A10b_o0_3, c10b_o0_3, y13b_o0, A13b_o0_1, c13b_o0_1, A13b_o0_2, c13b_o0_2, A13b_o0_3, c13b_o0_3, _, _, rfl, h0_, hI, Le.refl _, Le.refl _, hc19_, hs19_, ht10b_o0, hc10b_o0_1, hs10b_o0_1, hc10b_o0_2, hs10b_o0_2, hc10b_o0_3, hs10b_o0_3, ht13b_o0, hc13b_o0_1, hs13b_o0_1, hc13b_o0_2, hs13b_o0_2, hc13b_o0_3, hs13b_o0_3, trivial⟩ fun B_ b_ => ?_
      clear h0_
      simp only [e_, Nat.reduceAdd, Nat.reduceBEq] at b_
      subst b_
      rintro m18_ _ w18_ ⟨x42_18, A42_18, c42_18, x44_18, yo0_10b_18, Ao0_10b_18_1, co0_10b_18_1, Ao0_10b_18_2, co0_10b_18_2, Ao0_10b_18_3, co0_10b_18_3, yo0_13b_18, Ao0_13b_18_1, co0_13b_18_1, Ao0_13b_18_2, co0_13b_18_2, Ao0_13b_18_3, co0_13b_18_3, L18_, H18_, rfl, hJ18_, hI18_, hll18_, hhh18_, hc42_18, hs42_18, hto0_10b_18, hco0_10b_18_1, hso0_10b_18_1, hco0_10b_18_2, hso0_10b_18_2, hco0_10b_18_3, hso0_10b_18_3, hto0_13b_18, hco0_13b_18_1, hso0_13b_18_1, hco0_13b_18_2, hso0_13b_18_2, hco0_13b_18_3, hso0_13b_18_3, -⟩
      replace hI := hI18_
      clear hI18_
      have h := hs18_ m18_ x42_18 x44_18 yo0_10b_18 yo0_13b_18 hJ18_
      clear hs18_ hJ18_
      replace hll14_ := hll14_.trans hll18_
      replace hhh14_ := hhh14_.trans hhh18_
      refine W_seq_k fun K20 k20 => ?_
      refine W_region [45] rfl (Ops_step (R_lss rfl rfl) rfl rfl ?_)
      refine Ops_nil ?_
      refine then_n (k20 _ _ ?_)
      clear k20 K20
      refine W_seq_k fun K21 k21 => ?_
      refine W_if rfl (fun hc22_ => ?_) (fun hc22_ => ?_)
      ·
       replace h := h.1 hc22_
       refine W_skip ?_
       refine then_n (k21 _ _ ?_)
       clear k21 K21
       refine W_seq_k fun K23 k23 => ?_
       refine W_block ?_
       refine W_seq_k fun K24 k24 => ?_
       refine W_region [46, 47, 48, 11, 12] rfl (Ops_step (R_move rfl) rfl rfl ?_)
       refine ex_ h fun x25_ hx25_ h => ?_
       have ha25_ := (hs42_18.atL hx25_).1
       refine Exists.elim (hs42_18.atL hx25_).2 fun A25_ hA25_ => Exists.elim hA25_ fun c25_ hA25_ => ?_
       have hc25_ := hA25_.1
       have hs25_ := hA25_.2.1
       have hg25_ := hA25_.2.2
       clear hA25_
       refine Ops_step (R_indexSl Try.underlying67 sz29 rfl rfl hx25_.1 hx25_.lt ha25_) rfl rfl (Ops_step (R_load ag29 rfl (hI.st _ _ hg25_)) rfl rfl (Ops_step (R_assign rfl) rfl rfl (Ops_step (R_assign rfl) rfl rfl ?_)))
       refine Ops_nil ?_
       refine then_n (k24 _ _ ?_)
       clear k24 K24
       refine W_seq_k fun K26 k26 => ?_
       refine W_region [49, 50, 51, 52] rfl (Ops_step (R_move rfl) rfl rfl (Ops_step (R_move rfl) rfl rfl (Ops_step (R_move rfl) rfl rfl ?_)))
       refine Ops_call (C_func bd26 rfl) rfl rfl ?_
       refine (disk_Disk_Append_ok (x1 := x44_18) (x2 := x25_) (z0 := yo0_10b_18) hI.st (hg.up hI.le) hto0_10b_18 hco0_10b_18_1 hso0_10b_18_1 hco0_10b_18_2 hso0_10b_18_2 hco0_10b_18_3 hso0_10b_18_3 hc25_ hs25_ h).mono ?_
       rintro _ w27_ ⟨r27_0, y27_o0, A27_o0_1, c27_o0_1, A27_o0_2, c27_o0_2, A27_o0_3, c27_o0_3, L27_, H27_, rfl, hI27_, ht27_o0, hc27_o0_1, hs27_o0_1, hc27_o0_2, hs27_o0_2, hc27_o0_3, hs27_o0_3, h⟩
       refine Exists.elim (hI.call hI27_ (new1 hge_o0_10b)) fun L270_ h27_ => ?_
       have hz27_ := hI.size
       replace hI := h27_.1
       have u27_ := h27_.2.1
       have hl27_ := h27_.2.2
       clear h27_
       replace hll14_ := hll14_.trans u27_.ll
       replace hhh14_ := hhh14_.trans u27_.hh
       replace hso0_10b_18_1 := hso0_10b_18_1.up u27_.hh
       replace hso0_10b_18_2 := hso0_10b_18_2.up u27_.hh
       replace hso0_10b_18_3 := hso0_10b_18_3.up u27_.hh
       replace hto0_13b_18 := hto0_13b_18.up u27_ (hto0_13b_18.apart hto0_10b_18 (by decide))
       replace hso0_13b_18_1 := hso0_13b_18_1.up u27_.hh
       replace hso0_13b_18_2 := hso0_13b_18_2.up u27_.hh
       replace hso0_13b_18_3 := hso0_13b_18_3.up u27_.hh
       replace hs42_18 := hs42_18.up u27_.hh
       replace hll18_ := hll18_.trans u27_.ll
       replace hhh18_ := hhh18_.trans u27_.hh
       replace hs25_ := hs25_.up u27_.hh
       clear hto0_10b_18
       clear hI27_ u27_ hl27_
       refine ⟨_, rfl, ?_⟩
       refine Ops_nil ?_
       refine then_n (k26 _ _ ?_)
       clear k26 K26
       refine W_keepB [7, 9, 11, 12, 42, 43, 44] fun B_ b_ => ?_
       simp only [e_, Nat.reduceAdd, Nat.reduceBEq] at b_
       subst b_
       refine W_region [53, 54, 55, 56] rfl (Ops_step (R_move rfl) rfl rfl (Ops_step (R_move rfl) rfl rfl (Ops_step (R_move rfl) rfl rfl ?_)))
       refine Ops_call (C_func bd27 rfl) rfl rfl ?_
       refine (sealskinref05_Disk_Append_ok (x1 := x44_18) (x2 := x25_) (z0 := yo0_13b_18) hI.st (hg.up hI.le) hto0_13b_18 hco0_13b_18_1 hso0_13b_18_1 hco0_13b_18_2 hso0_13b_18_2 hco0_13b_18_3 hso0_13b_18_3 hc25_ hs25_ h).mono ?_
       rintro _ w29_ ⟨r29_0, y29_o0, A29_o0_1, c29_o0_1, A29_o0_2, c29_o0_2, A29_o0_3, c29_o0_3, L29_, H29_, rfl, hI29_, ht29_o0, hc29_o0_1, hs29_o0_1, hc29_o0_2, hs29_o0_2, hc29_o0_3, hs29_o0_3, h⟩
       refine Exists.elim (hI.call hI29_ (new1 hge_o0_13b)) fun L290_ h29_ => ?_
       have hz29_ := hI.size
       replace hI := h29_.1
       have u29_ := h29_.2.1
       have hl29_ := h29_.2.2
       clear h29_
       replace hll14_ := hll14_.trans u29_.ll
       replace hhh14_ := hhh14_.trans u29_.hh
       replace hso0_13b_18_1 := hso0_13b_18_1.up u29_.hh
       replace hso0_13b_18_2 := hso0_13b_18_2.up u29_.hh
       replace hso0_13b_18_3 := hso0_13b_18_3.up u29_.hh
       replace hs42_18 := hs42_18.up u29_.hh
       replace hll18_ := hll18_.trans u29_.ll
       replace hhh18_ := hhh18_.trans u29_.hh
       replace ht27_o0 := ht27_o0.up u29_ (ht27_o0.apart hto0_13b_18 (by decide))
       replace hs27_o0_1 := hs27_o0_1.up u29_.hh
       replace hs27_o0_2 := hs27_o0_2.up u29_.hh
       replace hs27_o0_3 := hs27_o0_3.up u29_.hh
       clear hto0_13b_18
       clear hI29_ u29_ hl29_
       refine ⟨_, rfl, ?_⟩
       refine Ops_nil ?_
       refine block_n ?_
       refine then_n (k23 _ _ ?_)
       clear k23 K23
       refine W_keepB [7, 9, 42, 43, 44] fun B_ b_ => ?_
       simp only [e_, Nat.reduceAdd, Nat.reduceBEq] at b_
       subst b_
       refine W_region [57, 44] rfl ?_
       have hk31_ := h.1
       replace h := h.2
       refine Ops_step (R_add rfl rfl (wI hk31_.1 hk31_.2)) rfl rfl (Ops_step (R_move rfl) rfl rfl ?_)
       refine Ops_nil ?_
       refine then_n ?_
       exact h.elim fun m_ h => ⟨m_, _, h.1, rfl, ⟨x42_18, A42_18, c42_18, (x44_18 + 1), y27_o0, A27_o0_1, c27_o0_1, A27_o0_2, c27_o0_2, A27_o0_3, c27_o0_3, y29_o0, A29_o0_1, c29_o0_1, A29_o0_2, c29_o0_2, A29_o0_3, c29_o0_3, _, _, rfl, h.2, hI, hll18_, hhh18_, hc42_18, hs42_18, ht27_o0, hc27_o0_1, hs27_o0_1, hc27_o0_2, hs27_o0_2, hc27_o0_3, hs27_o0_3, ht29_o0, hc29_o0_1, hs29_o0_1, hc29_o0_2, hs29_o0_2, hc29_o0_3, hs29_o0_3, trivial⟩, ⟨rfl, rfl, rfl, trivial⟩⟩
      ·
       replace h := h.2 hc22_
       refine W_exit ?_
       refine then_exit ?_
       clear k21 K21
       refine then_exit ?_
       refine block_exit ?_
       refine then_n ?_
       exact ⟨_, rfl, ⟨yo0_10b_18, Ao0_10b_18_1, co0_10b_18_1, Ao0_10b_18_2, co0_10b_18_2, Ao0_10b_18_3, co0_10b_18_3, yo0_13b_18, Ao0_13b_18_1, co0_13b_18_1, Ao0_13b_18_2, co0_13b_18_2, Ao0_13b_18_3, co0_13b_18_3, _, _, rfl, h, hI, hll14_, hhh14_, hto0_10b_18, hco0_10b_18_1, hso0_10b_18_1, hco0_10b_18_2, hso0_10b_18_2, hco0_10b_18_3, hso0_10b_18_3, hto0_13b_18, hco0_13b_18_1, hso0_13b_18_1, hco0_13b_18_2, hso0_13b_18_2, hco0_13b_18_3, hso0_13b_18_3, trivial⟩, ⟨rfl, rfl, trivial⟩⟩
     ·
      simp only [e_, Nat.reduceAdd, Nat.reduceBEq] at b_
      subst b_
      clear h
      rintro _ w14_ ⟨yo0_10b_14, Ao0_10b_14_1, co0_10b_14_1, Ao0_10b_14_2, co0_10b_14_2, Ao0_10b_14_3, co0_10b_14_3, yo0_13b_14, Ao0_13b_14_1, co0_13b_14_1, Ao0_13b_14_2, co0_13b_14_2, Ao0_13b_14_3, co0_13b_14_3, L14_, H14_, rfl, hJ14_, hI14_, hll14_, hhh14_, hto0_10b_14, hco0_10b_14_1, hso0_10b_14_1, hco0_10b_14_2, hso0_10b_14_2, hco0_10b_14_3, hso0_10b_14_3, hto0_13b_14, hco0_13b_14_1, hso0_13b_14_1, hco0_13b_14_2, hso0_13b_14_2, hco0_13b_14_3, hso0_13b_14_3, -⟩
      replace hI := hI14_
      clear hI14_
      have h := hr14_ yo0_10b_14 yo0_13b_14 hJ14_
      clear hr14_ hJ14_
      refine W_seq_k fun K32 k32 => ?_
      refine W_region [59, 60, 58, 61, 62, 13, 14] rfl (Ops_step (R_move rfl) rfl rfl ?_)
      refine Ops_call (C_func bd20 rfl) rfl rfl ?_
      refine (journal_Open_ok (z0 := yo0_10b_14) hI.st (hg.up hI.le) hto0_10b_14 hco0_10b_14_1 hso0_10b_14_1 hco0_10b_14_2 hso0_10b_14_2 hco0_10b_14_3 hso0_10b_14_3 h).mono ?_
      rintro _ w33_ (⟨r33a_1, y33a_o0, A33a_o0_1, c33a_o0_1, A33a_o0_2, c33a_o0_2, A33a_o0_3, c33a_o0_3, L33a_, H33a_, rfl, hI33a_, ht33a_o0, hc33a_o0_1, hs33a_o0_1, hc33a_o0_2, hs33a_o0_2, hc33a_o0_3, hs33a_o0_3, h⟩ | ⟨r33b_1, y33b_o0, A33b_o0_1, c33b_o0_1, A33b_o0_2, c33b_o0_2, A33b_o0_3, c33b_o0_3, o1_33b, y33b_o1, A33b_o1_1, c33b_o1_1, o2_33b, y33b_o2, L33b_, H33b_, rfl, hI33b_, ht33b_o0, hc33b_o0_1, hs33b_o0_1, hc33b_o0_2, hs33b_o0_2, hc33b_o0_3, hs33b_o0_3, hge_o1_33b, ht33b_o1, hc33b_o1_1, hs33b_o1_1, hge_o2_33b, ht33b_o2, h⟩)
      ·
       refine Exists.elim (hI.call hI33a_ (new1 hge_o0_10b)) fun L33a0_ h33a_ => ?_
       have hz33a_ := hI.size
       replace hI := h33a_.1
       have u33a_ := h33a_.2.1
       have hl33a_ := h33a_.2.2
       clear h33a_
       replace hso0_10b_14_1 := hso0_10b_14_1.up u33a_.hh
       replace hso0_10b_14_2 := hso0_10b_14_2.up u33a_.hh
       replace hso0_10b_14_3 := hso0_10b_14_3.up u33a_.hh
       replace hto0_13b_14 := hto0_13b_14.up u33a_ (hto0_13b_14.apart hto0_10b_14 (by decide))
       replace hso0_13b_14_1 := hso0_13b_14_1.up u33a_.hh
       replace hso0_13b_14_2 := hso0_13b_14_2.up u33a_.hh
       replace hso0_13b_14_3 := hso0_13b_14_3.up u33a_.hh
       clear hto0_10b_14
       clear hI33a_ u33a_ hl33a_
       refine ⟨_, rfl, ?_⟩
       refine Ops_step (R_move rfl) rfl rfl ?_
       refine Ops_step (R_extract (v := .pointer none) rfl rfl) rfl rfl ?_
       refine Ops_step (R_extract (v := vi r33a_1) rfl rfl) rfl rfl ?_
       refine Ops_step (R_assign rfl) rfl rfl (Ops_step (R_assign rfl) rfl rfl ?_)
       refine Ops_nil ?_
       refine then_n (k32 _ _ ?_)
       clear k32 K32
       refine W_seq_k fun K34 k34 => ?_
       refine W_region [64, 65, 63, 66, 67, 15, 16] rfl (Ops_step (R_move rfl) rfl rfl ?_)
       refine Ops_call (C_func bd28 rfl) rfl rfl ?_
       refine (sealskinref06_Open_ok (z0 := yo0_13b_14) hI.st (hg.up hI.le) hto0_13b_14 hco0_13b_14_1 hso0_13b_14_1 hco0_13b_14_2 hso0_13b_14_2 hco0_13b_14_3 hso0_13b_14_3 h).mono ?_
       rintro _ w35_ (⟨r35a_1, y35a_o0, A35a_o0_1, c35a_o0_1, A35a_o0_2, c35a_o0_2, A35a_o0_3, c35a_o0_3, L35a_, H35a_, rfl, hI35a_, ht35a_o0, hc35a_o0_1, hs35a_o0_1, hc35a_o0_2, hs35a_o0_2, hc35a_o0_3, hs35a_o0_3, h⟩ | ⟨r35b_1, y35b_o0, A35b_o0_1, c35b_o0_1, A35b_o0_2, c35b_o0_2, A35b_o0_3, c35b_o0_3, o1_35b, y35b_o1, A35b_o1_1, c35b_o1_1, L35b_, H35b_, rfl, hI35b_, ht35b_o0, hc35b_o0_1, hs35b_o0_1, hc35b_o0_2, hs35b_o0_2, hc35b_o0_3, hs35b_o0_3, hge_o1_35b, ht35b_o1, hc35b_o1_1, hs35b_o1_1, h⟩)
       ·
        refine Exists.elim (hI.call hI35a_ (new1 hge_o0_13b)) fun L35a0_ h35a_ => ?_
        have hz35a_ := hI.size
        replace hI := h35a_.1
        have u35a_ := h35a_.2.1
        have hl35a_ := h35a_.2.2
        clear h35a_
        replace hso0_13b_14_1 := hso0_13b_14_1.up u35a_.hh
        replace hso0_13b_14_2 := hso0_13b_14_2.up u35a_.hh
        replace hso0_13b_14_3 := hso0_13b_14_3.up u35a_.hh
        replace ht33a_o0 := ht33a_o0.up u35a_ (ht33a_o0.apart hto0_13b_14 (by decide))
        replace hs33a_o0_1 := hs33a_o0_1.up u35a_.hh
        replace hs33a_o0_2 := hs33a_o0_2.up u35a_.hh
        replace hs33a_o0_3 := hs33a_o0_3.up u35a_.hh
        clear hto0_13b_14
        clear hI35a_ u35a_ hl35a_
        refine ⟨_, rfl, ?_⟩
        refine Ops_step (R_move rfl) rfl rfl ?_
        refine Ops_step (R_extract (v := .pointer none) rfl rfl) rfl rfl ?_
        refine Ops_step (R_extract (v := vi r35a_1) rfl rfl) rfl rfl ?_
        refine Ops_step (R_assign rfl) rfl rfl (Ops_step (R_assign rfl) rfl rfl ?_)
        refine Ops_nil ?_
        refine then_n (k34 _ _ ?_)
        clear k34 K34
        refine W_keepB [7, 9, 13, 14, 15, 16] fun B_ b_ => ?_
        simp only [e_, Nat.reduceAdd, Nat.reduceBEq] at b_
        subst b_
        refine W_seq_k fun K37 k37 => ?_
        refine ex_ h fun J38_ hr38_ h => ?_
        refine W_seq_join [13, 15] [83] (fun vals_ w2 => ∃ (x83_38 : Bool) (L H : Gh), vals_ = [.bool x83_38] ∧ J38_ x83_38 ∧ Inv [] G w L H w2 ∧ Le L35a0_ L ∧ Le H35a_ H ∧ True) (fun B_ b_ => ?_) (fun B_ b_ => ?_)
        ·
         simp only [e_, Nat.reduceAdd, Nat.reduceBEq] at b_
         subst b_
         clear hr38_
         have hll38_ := Le.refl L35a0_
         have hhh38_ := Le.refl H35a_
         refine W_region [68, 69, 70, 71, 72, 73, 74, 75, 76, 77, 78, 79, 80, 81, 82, 83] rfl (Ops_step (R_move rfl) rfl rfl (Ops_step (R_move rfl) rfl rfl (Ops_step (R_neq rfl rfl) rfl rfl (Ops_step (R_move rfl) rfl rfl ?_))))
         refine Ops_split 71 rfl (fun hg39_ => ?_) (fun hg39_ => ?_)
         ·
          replace h := h.1 hg39_
          refine Ops_pass rfl rfl (Ops_pass rfl rfl (Ops_pass rfl rfl (Ops_pass rfl rfl (Ops_pass rfl rfl ?_))))
          refine Ops_step (R_pick_true rfl rfl) rfl rfl (Ops_step (R_move rfl) rfl rfl (Ops_pass rfl rfl (Ops_pass rfl rfl (Ops_pass rfl rfl ?_))))
          refine Ops_pass rfl rfl (Ops_step (R_pick_true rfl rfl) rfl rfl ?_)
          refine Ops_nil ?_
          refine then_n ?_
          exact ⟨_, rfl, ⟨true, _, _, rfl, h, hI, hll38_, hhh38_, trivial⟩, ⟨rfl, rfl, trivial⟩⟩
         ·
          replace h := h.2 hg39_
          refine Ops_step (R_move rfl) rfl rfl (Ops_step (R_ptrNil Try.underlying26 rfl rfl) rfl rfl (Ops_step (R_move rfl) rfl rfl (Ops_step (R_ptrNil Try.underlying68 rfl rfl) rfl rfl (Ops_step (R_boolNe Try.underlying4 rfl rfl) rfl rfl ?_))))
          refine Ops_step (R_pick_false rfl rfl) rfl rfl (Ops_step (R_move rfl) rfl rfl ?_)
          refine Ops_splitB 78 rfl (fun hg40_ => ?_) (fun hg40_ => ?_)
          ·
           replace h := h.1 hg40_
           refine Ops_pass rfl rfl (Ops_pass rfl rfl (Ops_pass rfl rfl (Ops_pass rfl rfl (Ops_step (R_pick_true rfl rfl) rfl rfl ?_))))
           refine Ops_nil ?_
           refine then_n ?_
           exact ⟨_, rfl, ⟨true, _, _, rfl, h, hI, hll38_, hhh38_, trivial⟩, ⟨rfl, rfl, trivial⟩⟩
          ·
           replace h := h.2 hg40_
           refine Ops_step (R_move rfl) rfl rfl (Ops_step (R_move rfl) rfl rfl ?_)
           refine Ops_call (C_func bd29 rfl) rfl rfl ?_
           refine (sealskinlaw06_face_ok (z0 := y33a_o0) (z1 := y35a_o0) hI.st (hg.up hI.le) ht33a_o0 hc33a_o0_1 hs33a_o0_1 hc33a_o0_2 hs33a_o0_2 hc33a_o0_3 hs33a_o0_3 ht35a_o0 hc35a_o0_1 hs35a_o0_1 hc35a_o0_2 hs35a_o0_2 hc35a_o0_3 hs35a_o0_3 h).mono ?_
           rintro _ w41_ ⟨r41_0, L41_, H41_, rfl, hI41_, h⟩
           refine Exists.elim (hI.call hI41_ (by simp)) fun L410_ h41_ => ?_
           have hz41_ := hI.size
           replace hI := h41_.1
           have u41_ := h41_.2.1
           have hl41_ := h41_.2.2
           clear h41_
           replace ht33a_o0 := ht33a_o0.up u41_ (by simp)
           replace hs33a_o0_1 := hs33a_o0_1.up u41_.hh
           replace hs33a_o0_2 := hs33a_o0_2.up u41_.hh
           replace hs33a_o0_3 := hs33a_o0_3.up u41_.hh
           replace ht35a_o0 := ht35a_o0.up u41_ (by simp)
           replace hs35a_o0_1 := hs35a_o0_1.up u41_.hh
           replace hs35a_o0_2 := hs35a_o0_2.up u41_.hh
           replace hs35a_o0_3 := hs35a_o0_3.up u41_.hh
           replace hll38_ := hll38_.trans u41_.ll
           replace hhh38_ := hhh38_.trans u41_.hh
           clear hI41_ u41_ hl41_
           refine ⟨_, rfl, ?_⟩
           refine Ops_step (R_not rfl) rfl rfl (Ops_step (R_pick_false rfl rfl) rfl rfl ?_)
           refine Ops_nil ?_
           refine then_n ?_
           exact ⟨_, rfl, ⟨(!r41_0), _, _, rfl, h, hI, hll38_, hhh38_, trivial⟩, ⟨rfl, rfl, trivial⟩⟩
        ·
         simp only [e_, Nat.reduceAdd, Nat.reduceBEq] at b_
         subst b_
         clear h
         rintro _ w38_ ⟨x83_38, L38_, H38_, rfl, hJ38_, hI38_, hll38_, hhh38_, -⟩
         replace hI := hI38_
         clear hI38_
         have h := hr38_ x83_38 hJ38_
         clear hr38_ hJ38_
         refine W_cond rfl (fun hc42_ => ?_) (fun hc42_ => ?_)
         ·
          replace h := h.1 hc42_
          refine W_seq_k fun K43 k43 => ?_
          refine W_region [6] rfl (Ops_step (R_assign rfl) rfl rfl ?_)
          refine Ops_nil ?_
          refine then_n (k43 _ _ ?_)
          clear k43 K43
          refine W_ret ?_
          refine then_ret ?_
          clear k37 K37
          refine ⟨_, ⟨_, _, rfl, rfl, rfl⟩, ?_⟩
          exact ⟨false, _, _, rfl, hI, h⟩
         ·
          replace h := h.2 hc42_
          refine W_skip ?_
          refine then_n (k37 _ _ ?_)
          clear k37 K37
          refine W_seq_k fun K44 k44 => ?_
          refine W_drawF [84, 85, 86, 87, 88, 89, 90, 91, 92, 93, 94, 95, 96, 97, 6] [(0, true), (1, true), (2, true), (3, true), (5, true), (6, true), (7, true), (8, true), (4, false), (9, false), (10, true), (11, true), (12, false), (13, true), (14, true)] TJmOpens.hm rfl (by kernel_rfl) fun ops45_ w45_ hops45_ hF45_ => ?_
          replace hI := hI.fr0 hF45_
          clear hF45_
          refine HSp (R_move rfl) rfl rfl (HSp (R_ptrNil Try.underlying68 rfl rfl) rfl rfl (HSp (R_move rfl) rfl rfl ?_))
          refine HS_pass rfl rfl ?_
          refine HS_pass rfl rfl ?_
          refine HS_pass rfl rfl ?_
          refine HS_pass rfl rfl ?_
          refine HS_pass rfl rfl ?_
          refine HS_passL rfl rfl ?_
          refine HS_passL rfl rfl ?_
          refine HSp (R_pick_true rfl rfl) rfl rfl (HSp (R_move rfl) rfl rfl ?_)
          refine HS_call [] _ rfl (by rw [hops45_]; kernel_rfl) (C_func bd12 rfl) rfl rfl ?_
          refine (sealskinlaw06_awake_ok  hI.st (hg.up hI.le)  h).mono ?_
          rintro _ w46_ ⟨r46_0, L46_, H46_, rfl, hI46_, h⟩
          refine Exists.elim (hI.call hI46_ (by simp)) fun L460_ h46_ => ?_
          have hz46_ := hI.size
          replace hI := h46_.1
          have u46_ := h46_.2.1
          have hl46_ := h46_.2.2
          clear h46_
          clear hI46_ u46_ hl46_
          refine ⟨_, rfl, trivial, ?_⟩
          refine HSp (R_pick_true rfl rfl) rfl rfl (HSp (R_assign rfl) rfl rfl ?_)
          refine HS_nil ?_
          clear hops45_
          refine then_n (k44 _ _ ?_)
          clear k44 K44
          refine W_keepB [6] fun B_ b_ => ?_
          simp only [e_, Nat.reduceAdd, Nat.reduceBEq] at b_
          subst b_
          refine W_ret ?_
          refine ⟨_, ⟨_, _, rfl, rfl, rfl⟩, ?_⟩
          exact ⟨r46_0, _, _, rfl, hI, h⟩
       ·
        have hge0_o1_35b := hge_o1_35b
        replace hge_o1_35b := Nat.le_trans hI.size hge_o1_35b
        refine Exists.elim (hI.call hI35b_ (new1 hge_o0_13b)) fun L35b0_ h35b_ => ?_
        have hz35b_ := hI.size
        replace hI := h35b_.1
        have u35b_ := h35b_.2.1
        have hl35b_ := h35b_.2.2
        clear h35b_
        replace hso0_13b_14_1 := hso0_13b_14_1.up u35b_.hh
        replace hso0_13b_14_2 := hso0_13b_14_2.up u35b_.hh
        replace hso0_13b_14_3 := hso0_13b_14_3.up u35b_.hh
        replace ht33a_o0 := ht33a_o0.up u35b_ (ht33a_o0.apart hto0_13b_14 (by decide))
        replace hs33a_o0_1 := hs33a_o0_1.up u35b_.hh
        replace hs33a_o0_2 := hs33a_o0_2.up u35b_.hh
        replace hs33a_o0_3 := hs33a_o0_3.up u35b_.hh
        clear hto0_13b_14
        clear hI35b_ u35b_ hl35b_
        refine ⟨_, rfl, ?_⟩
        refine Ops_step (R_move rfl) rfl rfl ?_
        refine Ops_step (R_extract (v := .pointer (some ⟨o1_35b, 0, none⟩)) rfl rfl) rfl rfl ?_
        refine Ops_step (R_extract (v := vi r35b_1) rfl rfl) rfl rfl ?_
        refine Ops_step (R_assign rfl) rfl rfl (Ops_step (R_assign rfl) rfl rfl ?_)
        refine Ops_nil ?_
        refine then_n (k34 _ _ ?_)
        clear k34 K34
        refine W_keepB [7, 9, 13, 14, 15, 16] fun B_ b_ => ?_
        simp only [e_, Nat.reduceAdd, Nat.reduceBEq] at b_
        subst b_
        refine W_seq_k fun K49 k49 => ?_
        refine ex_ h fun J50_ hr50_ h => ?_
        refine W_seq_join [13, 15] [83] (fun vals_ w2 => ∃ (x83_50 : Bool) (L H : Gh), vals_ = [.bool x83_50] ∧ J50_ x83_50 ∧ Inv [] G w L H w2 ∧ Le L35b0_ L ∧ Le H35b_ H ∧ Tok H w2 o0_13b 81 ([.slice A35b_o0_1 y35b_o0.F_.e0_.length c35b_o0_1, .slice A35b_o0_2 y35b_o0.F_.e1_.length c35b_o0_2, .slice A35b_o0_3 y35b_o0.F_.e2_.length c35b_o0_3, vi y35b_o0.Room_, .bool y35b_o0.Off_, vi y35b_o0.Fuse_]) ∧ Tok H w2 o1_35b 73 ([.slice A35b_o1_1 y35b_o1.L_.length c35b_o1_1, .pointer (some ⟨o0_13b, 0, none⟩), vi y35b_o1.Gen_, vi y35b_o1.File_]) ∧ True) (fun B_ b_ => ?_) (fun B_ b_ => ?_)
        ·
         simp only [e_, Nat.reduceAdd, Nat.reduceBEq] at b_
         subst b_
         clear hr50_
         have hll50_ := Le.refl L35b0_
         have hhh50_ := Le.refl H35b_
         refine W_region [68, 69, 70, 71, 72, 73, 74, 75, 76, 77, 78, 79, 80, 81, 82, 83] rfl (Ops_step (R_move rfl) rfl rfl (Ops_step (R_move rfl) rfl rfl (Ops_step (R_neq rfl rfl) rfl rfl (Ops_step (R_move rfl) rfl rfl ?_))))
         refine Ops_split 71 rfl (fun hg51_ => ?_) (fun hg51_ => ?_)
         ·
          replace h := h.1 hg51_
          refine Ops_pass rfl rfl (Ops_pass rfl rfl (Ops_pass rfl rfl (Ops_pass rfl rfl (Ops_pass rfl rfl ?_))))
          refine Ops_step (R_pick_true rfl rfl) rfl rfl (Ops_step (R_move rfl) rfl rfl (Ops_pass rfl rfl (Ops_pass rfl rfl (Ops_pass rfl rfl ?_))))
          refine Ops_pass rfl rfl (Ops_step (R_pick_true rfl rfl) rfl rfl ?_)
          refine Ops_nil ?_
          refine then_n ?_
          exact ⟨_, rfl, ⟨true, _, _, rfl, h, hI, hll50_, hhh50_, ht35b_o0, ht35b_o1, trivial⟩, ⟨rfl, rfl, trivial⟩⟩
         ·
          replace h := h.2 hg51_
          refine Ops_step (R_move rfl) rfl rfl (Ops_step (R_ptrNil Try.underlying26 rfl rfl) rfl rfl (Ops_step (R_move rfl) rfl rfl (Ops_step (R_ptrNil Try.underlying68 rfl rfl) rfl rfl (Ops_step (R_boolNe Try.underlying4 rfl rfl) rfl rfl ?_))))
          refine Ops_step (R_pick_false rfl rfl) rfl rfl (Ops_step (R_move rfl) rfl rfl ?_)
          refine Ops_splitB 78 rfl (fun hg52_ => ?_) (fun hg52_ => ?_)
          ·
           replace h := h.1 hg52_
           refine Ops_pass rfl rfl (Ops_pass rfl rfl (Ops_pass rfl rfl (Ops_pass rfl rfl (Ops_step (R_pick_true rfl rfl) rfl rfl ?_))))
           refine Ops_nil ?_
           refine then_n ?_
           exact ⟨_, rfl, ⟨true, _, _, rfl, h, hI, hll50_, hhh50_, ht35b_o0, ht35b_o1, trivial⟩, ⟨rfl, rfl, trivial⟩⟩
          ·
           replace h := h.2 hg52_
           refine Ops_step (R_move rfl) rfl rfl (Ops_step (R_move rfl) rfl rfl ?_)
           refine Ops_call (C_func bd29 rfl) rfl rfl ?_
           refine (sealskinlaw06_face_ok (z0 := y33a_o0) (z1 := y35b_o0) hI.st (hg.up hI.le) ht33a_o0 hc33a_o0_1 hs33a_o0_1 hc33a_o0_2 hs33a_o0_2 hc33a_o0_3 hs33a_o0_3 ht35b_o0 hc35b_o0_1 hs35b_o0_1 hc35b_o0_2 hs35b_o0_2 hc35b_o0_3 hs35b_o0_3 h).mono ?_
           rintro _ w53_ ⟨r53_0, L53_, H53_, rfl, hI53_, h⟩
           refine Exists.elim (hI.call hI53_ (by simp)) fun L530_ h53_ => ?_
           have hz53_ := hI.size
           replace hI := h53_.1
           have u53_ := h53_.2.1
           have hl53_ := h53_.2.2
           clear h53_
           replace ht33a_o0 := ht33a_o0.up u53_ (by simp)
           replace hs33a_o0_1 := hs33a_o0_1.up u53_.hh
           replace hs33a_o0_2 := hs33a_o0_2.up u53_.hh
           replace hs33a_o0_3 := hs33a_o0_3.up u53_.hh
           replace ht35b_o0 := ht35b_o0.up u53_ (by simp)
           replace hs35b_o0_1 := hs35b_o0_1.up u53_.hh
           replace hs35b_o0_2 := hs35b_o0_2.up u53_.hh
           replace hs35b_o0_3 := hs35b_o0_3.up u53_.hh
           replace ht35b_o1 := ht35b_o1.up u53_ (by simp)
           replace hs35b_o1_1 := hs35b_o1_1.up u53_.hh
           replace hll50_ := hll50_.trans u53_.ll
           replace hhh50_ := hhh50_.trans u53_.hh
           clear hI53_ u53_ hl53_
           refine ⟨_, rfl, ?_⟩
           refine Ops_step (R_not rfl) rfl rfl (Ops_step (R_pick_false rfl rfl) rfl rfl ?_)
           refine Ops_nil ?_
           refine then_n ?_
           exact ⟨_, rfl, ⟨(!r53_0), _, _, rfl, h, hI, hll50_, hhh50_, ht35b_o0, ht35b_o1, trivial⟩, ⟨rfl, rfl, trivial⟩⟩
        ·
         simp only [e_, Nat.reduceAdd, Nat.reduceBEq] at b_
         subst b_
         clear h
         clear ht35b_o0
         clear ht35b_o1
         rintro _ w50_ ⟨x83_50, L50_, H50_, rfl, hJ50_, hI50_, hll50_, hhh50_, ht35b_o0, ht35b_o1, -⟩
         replace hI := hI50_
         clear hI50_
         have h := hr50_ x83_50 hJ50_
         clear hr50_ hJ50_
         replace hs35b_o0_1 := hs35b_o0_1.up hhh50_
         replace hs35b_o0_2 := hs35b_o0_2.up hhh50_
         replace hs35b_o0_3 := hs35b_o0_3.up hhh50_
         replace hs35b_o1_1 := hs35b_o1_1.up hhh50_
         refine W_cond rfl (fun hc54_ => ?_) (fun hc54_ => ?_)
         ·
          replace h := h.1 hc54_
          refine W_seq_k fun K55 k55 => ?_
          refine W_region [6] rfl (Ops_step (R_assign rfl) rfl rfl ?_)
          refine Ops_nil ?_
          refine then_n (k55 _ _ ?_)
          clear k55 K55
          refine W_ret ?_
          refine then_ret ?_
          clear k49 K49
          refine ⟨_, ⟨_, _, rfl, rfl, rfl⟩, ?_⟩
          exact ⟨false, _, _, rfl, hI, h⟩
         ·
          replace h := h.2 hc54_
          refine W_skip ?_
          refine then_n (k49 _ _ ?_)
          clear k49 K49
          refine W_seq_k fun K56 k56 => ?_
          refine W_drawF [84, 85, 86, 87, 88, 89, 90, 91, 92, 93, 94, 95, 96, 97, 6] [(0, true), (1, true), (2, true), (3, true), (5, true), (6, true), (7, true), (8, true), (4, false), (9, false), (10, true), (11, true), (12, false), (13, true), (14, true)] TJmOpens.hm rfl (by kernel_rfl) fun ops57_ w57_ hops57_ hF57_ => ?_
          replace hI := hI.fr0 hF57_
          replace ht35b_o0 := ht35b_o0.fr0 hF57_
          replace ht35b_o1 := ht35b_o1.fr0 hF57_
          clear hF57_
          refine HSp (R_move rfl) rfl rfl (HSp (R_ptrNil Try.underlying68 rfl rfl) rfl rfl (HSp (R_move rfl) rfl rfl (HSp (R_move rfl) rfl rfl (HSp (R_move rfl) rfl rfl ?_))))
          refine HSp (R_nilCheck rfl) rfl rfl (HSp (R_fieldAddr fo73_0 rfl) rfl rfl ?_)
          refine HS_loadB (v := .slice A35b_o1_1 y35b_o1.L_.length c35b_o1_1) ag36 rfl ht35b_o1.blk rfl rfl rfl ?_
          refine HS_call [8] _ rfl (by rw [hops57_]; kernel_rfl) (C_func bd16 rfl) rfl rfl ?_
          refine (sealskinlaw06_records_v1_ok  hI.st (hg.up hI.le)  h).mono ?_
          rintro _ w58_ ⟨A58_0, c58_0, r58_0, L58_, H58_, rfl, hI58_, ho58_0, h⟩
          refine Exists.elim (hI.call hI58_ (by simp)) fun L580_ h58_ => ?_
          have hz58_ := hI.size
          replace hI := h58_.1
          have u58_ := h58_.2.1
          have hl58_ := h58_.2.2
          clear h58_
          replace hs35b_o1_1 := hs35b_o1_1.up u58_.hh
          replace ht35b_o1 := ht35b_o1.up u58_ (by simp)
          replace ho58_0 := OwnS.back ho58_0 hz58_ hl58_ (Le.refl _)
          clear hI58_ u58_ hl58_
          refine ⟨_, rfl, ⟨(ht35b_o1.blk.at_ rfl), trivial⟩, ?_⟩
          refine Exists.elim (ho58_0.freeze hI) fun L59_ h59_ => Exists.elim h59_ fun H59_ h59_ => ?_
          replace hI := h59_.1
          have u59_ := h59_.2.1
          have hs59_ := h59_.2.2.1 (Le.refl _)
          have hc59_ := ho58_0.cap
          replace hs35b_o1_1 := hs35b_o1_1.up u59_.hh
          replace ht35b_o1 := ht35b_o1.up u59_ (ht35b_o1.sep ho58_0 (by decide))
          clear h59_ u59_ ho58_0
          refine HS_call [] _ rfl (by rw [hops57_]; kernel_rfl) (C_func bd23 rfl) rfl rfl ?_
          refine (slices_Equal_sealskinref06_Record_sealskinref06_Record_ok (x0 := r58_0) (x1 := y35b_o1.L_) hI.st (hg.up hI.le) hc59_ (hs59_.up hI.sub) hc35b_o1_1 hs35b_o1_1 h).mono ?_
          rintro _ w60_ ⟨r60_0, L60_, H60_, rfl, hI60_, h⟩
          refine Exists.elim (hI.call hI60_ (by simp)) fun L600_ h60_ => ?_
          have hz60_ := hI.size
          replace hI := h60_.1
          have u60_ := h60_.2.1
          have hl60_ := h60_.2.2
          clear h60_
          replace ht35b_o1 := ht35b_o1.up u60_ (by simp)
          clear hI60_ u60_ hl60_
          refine ⟨_, rfl, trivial, ?_⟩
          refine HSp (R_pick_false rfl rfl) rfl rfl (HSp (R_move rfl) rfl rfl ?_)
          refine HS_splitB 95 rfl (fun hg61_ => ?_) (fun hg61_ => ?_)
          ·
           replace h := h.1 hg61_
           refine HS_call [] _ rfl (by rw [hops57_]; kernel_rfl) (C_func bd12 rfl) rfl rfl ?_
           refine (sealskinlaw06_awake_ok  hI.st (hg.up hI.le)  h).mono ?_
           rintro _ w62_ ⟨r62_0, L62_, H62_, rfl, hI62_, h⟩
           refine Exists.elim (hI.call hI62_ (by simp)) fun L620_ h62_ => ?_
           have hz62_ := hI.size
           replace hI := h62_.1
           have u62_ := h62_.2.1
           have hl62_ := h62_.2.2
           clear h62_
           clear hI62_ u62_ hl62_
           refine ⟨_, rfl, trivial, ?_⟩
           refine HSp (R_pick_true rfl rfl) rfl rfl (HSp (R_assign rfl) rfl rfl ?_)
           refine HS_nil ?_
           clear hops57_
           refine then_n (k56 _ _ ?_)
           clear k56 K56
           refine W_keepB [6] fun B_ b_ => ?_
           simp only [e_, Nat.reduceAdd, Nat.reduceBEq] at b_
           subst b_
           refine W_ret ?_
           refine ⟨_, ⟨_, _, rfl, rfl, rfl⟩, ?_⟩
           exact ⟨r62_0, _, _, rfl, hI, h⟩
          ·
           replace h := h.2 hg61_
           refine HS_passL rfl rfl ?_
           refine HSp (R_pick_false rfl rfl) rfl rfl (HSp (R_assign rfl) rfl rfl ?_)
           refine HS_nil ?_
           clear hops57_
           refine then_n (k56 _ _ ?_)
           clear k56 K56
           refine W_keepB [6] fun B_ b_ => ?_
           simp only [e_, Nat.reduceAdd, Nat.reduceBEq] at b_
           subst b_
           refine W_ret ?_
           refine ⟨_, ⟨_, _, rfl, rfl, rfl⟩, ?_⟩
           exact ⟨false, _, _, rfl, hI, h⟩
      ·
       have hge0_o1_33b := hge_o1_33b
       replace hge_o1_33b := Nat.le_trans hI.size hge_o1_33b
       have hge0_o2_33b := hge_o2_33b
       replace hge_o2_33b := Nat.le_trans hI.size hge_o2_33b
       refine Exists.elim (hI.call hI33b_ (new1 hge_o0_10b)) fun L33b0_ h33b_ => ?_
       have hz33b_ := hI.size
       replace hI := h33b_.1
       have u33b_ := h33b_.2.1
       have hl33b_ := h33b_.2.2
       clear h33b_
       replace hso0_10b_14_1 := hso0_10b_14_1.up u33b_.hh
       replace hso0_10b_14_2 := hso0_10b_14_2.up u33b_.hh
       replace hso0_10b_14_3 := hso0_10b_14_3.up u33b_.hh
       replace hto0_13b_14 := hto0_13b_14.up u33b_ (hto0_13b_14.apart hto0_10b_14 (by decide))
       replace hso0_13b_14_1 := hso0_13b_14_1.up u33b_.hh
       replace hso0_13b_14_2 := hso0_13b_14_2.up u33b_.hh
       replace hso0_13b_14_3 := hso0_13b_14_3.up u33b_.hh
       clear hto0_10b_14
       clear hI33b_ u33b_ hl33b_
       refine ⟨_, rfl, ?_⟩
       refine Ops_step (R_move rfl) rfl rfl ?_
       refine Ops_step (R_extract (v := .pointer (some ⟨o1_33b, 0, none⟩)) rfl rfl) rfl rfl ?_
       refine Ops_step (R_extract (v := vi r33b_1) rfl rfl) rfl rfl ?_
       refine Ops_step (R_assign rfl) rfl rfl (Ops_step (R_assign rfl) rfl rfl ?_)
       refine Ops_nil ?_
       refine then_n (k32 _ _ ?_)
       clear k32 K32
       refine W_seq_k fun K65 k65 => ?_
       refine W_region [64, 65, 63, 66, 67, 15, 16] rfl (Ops_step (R_move rfl) rfl rfl ?_)
       refine Ops_call (C_func bd28 rfl) rfl rfl ?_
       refine (sealskinref06_Open_ok (z0 := yo0_13b_14) hI.st (hg.up hI.le) hto0_13b_14 hco0_13b_14_1 hso0_13b_14_1 hco0_13b_14_2 hso0_13b_14_2 hco0_13b_14_3 hso0_13b_14_3 h).mono ?_
       rintro _ w66_ (⟨r66a_1, y66a_o0, A66a_o0_1, c66a_o0_1, A66a_o0_2, c66a_o0_2, A66a_o0_3, c66a_o0_3, L66a_, H66a_, rfl, hI66a_, ht66a_o0, hc66a_o0_1, hs66a_o0_1, hc66a_o0_2, hs66a_o0_2, hc66a_o0_3, hs66a_o0_3, h⟩ | ⟨r66b_1, y66b_o0, A66b_o0_1, c66b_o0_1, A66b_o0_2, c66b_o0_2, A66b_o0_3, c66b_o0_3, o1_66b, y66b_o1, A66b_o1_1, c66b_o1_1, L66b_, H66b_, rfl, hI66b_, ht66b_o0, hc66b_o0_1, hs66b_o0_1, hc66b_o0_2, hs66b_o0_2, hc66b_o0_3, hs66b_o0_3, hge_o1_66b, ht66b_o1, hc66b_o1_1, hs66b_o1_1, h⟩)
       ·
        refine Exists.elim (hI.call hI66a_ (new1 hge_o0_13b)) fun L66a0_ h66a_ => ?_
        have hz66a_ := hI.size
        replace hI := h66a_.1
        have u66a_ := h66a_.2.1
        have hl66a_ := h66a_.2.2
        clear h66a_
        replace hso0_13b_14_1 := hso0_13b_14_1.up u66a_.hh
        replace hso0_13b_14_2 := hso0_13b_14_2.up u66a_.hh
        replace hso0_13b_14_3 := hso0_13b_14_3.up u66a_.hh
        replace ht33b_o0 := ht33b_o0.up u66a_ (ht33b_o0.apart hto0_13b_14 (by decide))
        replace hs33b_o0_1 := hs33b_o0_1.up u66a_.hh
        replace hs33b_o0_2 := hs33b_o0_2.up u66a_.hh
        replace hs33b_o0_3 := hs33b_o0_3.up u66a_.hh
        replace ht33b_o1 := ht33b_o1.up u66a_ (ht33b_o1.apart hto0_13b_14 (by decide))
        replace hs33b_o1_1 := hs33b_o1_1.up u66a_.hh
        replace ht33b_o2 := ht33b_o2.up u66a_.hh u66a_ (ht33b_o2.neT hto0_13b_14)
        clear hto0_13b_14
        clear hI66a_ u66a_ hl66a_
        refine ⟨_, rfl, ?_⟩
        refine Ops_step (R_move rfl) rfl rfl ?_
        refine Ops_step (R_extract (v := .pointer none) rfl rfl) rfl rfl ?_
        refine Ops_step (R_extract (v := vi r66a_1) rfl rfl) rfl rfl ?_
        refine Ops_step (R_assign rfl) rfl rfl (Ops_step (R_assign rfl) rfl rfl ?_)
        refine Ops_nil ?_
        refine then_n (k65 _ _ ?_)
        clear k65 K65
        refine W_keepB [7, 9, 13, 14, 15, 16] fun B_ b_ => ?_
        simp only [e_, Nat.reduceAdd, Nat.reduceBEq] at b_
        subst b_
        refine W_seq_k fun K68 k68 => ?_
        refine ex_ h fun J69_ hr69_ h => ?_
        refine W_seq_join [13, 15] [83] (fun vals_ w2 => ∃ (x83_69 : Bool) (L H : Gh), vals_ = [.bool x83_69] ∧ J69_ x83_69 ∧ Inv [] G w L H w2 ∧ Le L66a0_ L ∧ Le H66a_ H ∧ Tok H w2 o0_10b 53 ([.slice A33b_o0_1 y33b_o0.files_.e0_.length c33b_o0_1, .slice A33b_o0_2 y33b_o0.files_.e1_.length c33b_o0_2, .slice A33b_o0_3 y33b_o0.files_.e2_.length c33b_o0_3, vi y33b_o0.room_, .bool y33b_o0.off_, .bool y33b_o0.armed_, vi y33b_o0.left_]) ∧ Tok H w2 o1_33b 46 ([.slice A33b_o1_1 y33b_o1.book_.l_.length c33b_o1_1, .map (some o2_33b), .pointer (some ⟨o0_10b, 0, none⟩), vi y33b_o1.gen_, vi y33b_o1.place_]) ∧ MTok H H w2 o2_33b y33b_o2 ∧ True) (fun B_ b_ => ?_) (fun B_ b_ => ?_)
        ·
         simp only [e_, Nat.reduceAdd, Nat.reduceBEq] at b_
         subst b_
         clear hr69_
         have hll69_ := Le.refl L66a0_
         have hhh69_ := Le.refl H66a_
         refine W_region [68, 69, 70, 71, 72, 73, 74, 75, 76, 77, 78, 79, 80, 81, 82, 83] rfl (Ops_step (R_move rfl) rfl rfl (Ops_step (R_move rfl) rfl rfl (Ops_step (R_neq rfl rfl) rfl rfl (Ops_step (R_move rfl) rfl rfl ?_))))
         refine Ops_split 71 rfl (fun hg70_ => ?_) (fun hg70_ => ?_)
         ·
          replace h := h.1 hg70_
          refine Ops_pass rfl rfl (Ops_pass rfl rfl (Ops_pass rfl rfl (Ops_pass rfl rfl (Ops_pass rfl rfl ?_))))
          refine Ops_step (R_pick_true rfl rfl) rfl rfl (Ops_step (R_move rfl) rfl rfl (Ops_pass rfl rfl (Ops_pass rfl rfl (Ops_pass rfl rfl ?_))))
          refine Ops_pass rfl rfl (Ops_step (R_pick_true rfl rfl) rfl rfl ?_)
          refine Ops_nil ?_
          refine then_n ?_
          exact ⟨_, rfl, ⟨true, _, _, rfl, h, hI, hll69_, hhh69_, ht33b_o0, ht33b_o1, ht33b_o2, trivial⟩, ⟨rfl, rfl, trivial⟩⟩
         ·
          replace h := h.2 hg70_
          refine Ops_step (R_move rfl) rfl rfl (Ops_step (R_ptrNil Try.underlying26 rfl rfl) rfl rfl (Ops_step (R_move rfl) rfl rfl (Ops_step (R_ptrNil Try.underlying68 rfl rfl) rfl rfl (Ops_step (R_boolNe Try.underlying4 rfl rfl) rfl rfl ?_))))
          refine Ops_step (R_pick_false rfl rfl) rfl rfl (Ops_step (R_move rfl) rfl rfl ?_)
          refine Ops_splitB 78 rfl (fun hg71_ => ?_) (fun hg71_ => ?_)
          ·
           replace h := h.1 hg71_
           refine Ops_pass rfl rfl (Ops_pass rfl rfl (Ops_pass rfl rfl (Ops_pass rfl rfl (Ops_step (R_pick_true rfl rfl) rfl rfl ?_))))
           refine Ops_nil ?_
           refine then_n ?_
           exact ⟨_, rfl, ⟨true, _, _, rfl, h, hI, hll69_, hhh69_, ht33b_o0, ht33b_o1, ht33b_o2, trivial⟩, ⟨rfl, rfl, trivial⟩⟩
          ·
           replace h := h.2 hg71_
           refine Ops_step (R_move rfl) rfl rfl (Ops_step (R_move rfl) rfl rfl ?_)
           refine Ops_call (C_func bd29 rfl) rfl rfl ?_
           refine (sealskinlaw06_face_ok (z0 := y33b_o0) (z1 := y66a_o0) hI.st (hg.up hI.le) ht33b_o0 hc33b_o0_1 hs33b_o0_1 hc33b_o0_2 hs33b_o0_2 hc33b_o0_3 hs33b_o0_3 ht66a_o0 hc66a_o0_1 hs66a_o0_1 hc66a_o0_2 hs66a_o0_2 hc66a_o0_3 hs66a_o0_3 h).mono ?_
           rintro _ w72_ ⟨r72_0, L72_, H72_, rfl, hI72_, h⟩
           refine Exists.elim (hI.call hI72_ (by simp)) fun L720_ h72_ => ?_
           have hz72_ := hI.size
           replace hI := h72_.1
           have u72_ := h72_.2.1
           have hl72_ := h72_.2.2
           clear h72_
           replace ht33b_o0 := ht33b_o0.up u72_ (by simp)
           replace hs33b_o0_1 := hs33b_o0_1.up u72_.hh
           replace hs33b_o0_2 := hs33b_o0_2.up u72_.hh
           replace hs33b_o0_3 := hs33b_o0_3.up u72_.hh
           replace ht33b_o1 := ht33b_o1.up u72_ (by simp)
           replace hs33b_o1_1 := hs33b_o1_1.up u72_.hh
           replace ht33b_o2 := ht33b_o2.up u72_.hh u72_ (by simp)
           replace ht66a_o0 := ht66a_o0.up u72_ (by simp)
           replace hs66a_o0_1 := hs66a_o0_1.up u72_.hh
           replace hs66a_o0_2 := hs66a_o0_2.up u72_.hh
           replace hs66a_o0_3 := hs66a_o0_3.up u72_.hh
           replace hll69_ := hll69_.trans u72_.ll
           replace hhh69_ := hhh69_.trans u72_.hh
           clear hI72_ u72_ hl72_
           refine ⟨_, rfl, ?_⟩
           refine Ops_step (R_not rfl) rfl rfl (Ops_step (R_pick_false rfl rfl) rfl rfl ?_)
           refine Ops_nil ?_
           refine then_n ?_
           exact ⟨_, rfl, ⟨(!r72_0), _, _, rfl, h, hI, hll69_, hhh69_, ht33b_o0, ht33b_o1, ht33b_o2, trivial⟩, ⟨rfl, rfl, trivial⟩⟩
        ·
         simp only [e_, Nat.reduceAdd, Nat.reduceBEq] at b_
         subst b_
         clear h
         clear ht33b_o0
         clear ht33b_o1
         clear ht33b_o2
         rintro _ w69_ ⟨x83_69, L69_, H69_, rfl, hJ69_, hI69_, hll69_, hhh69_, ht33b_o0, ht33b_o1, ht33b_o2, -⟩
         replace hI := hI69_
         clear hI69_
         have h := hr69_ x83_69 hJ69_
         clear hr69_ hJ69_
         replace hs33b_o0_1 := hs33b_o0_1.up hhh69_
         replace hs33b_o0_2 := hs33b_o0_2.up hhh69_
         replace hs33b_o0_3 := hs33b_o0_3.up hhh69_
         replace hs33b_o1_1 := hs33b_o1_1.up hhh69_
         refine W_cond rfl (fun hc73_ => ?_) (fun hc73_ => ?_)
         ·
          replace h := h.1 hc73_
          refine W_seq_k fun K74 k74 => ?_
          refine W_region [6] rfl (Ops_step (R_assign rfl) rfl rfl ?_)
          refine Ops_nil ?_
          refine then_n (k74 _ _ ?_)
          clear k74 K74
          refine W_ret ?_
          refine then_ret ?_
          clear k68 K68
          refine ⟨_, ⟨_, _, rfl, rfl, rfl⟩, ?_⟩
          exact ⟨false, _, _, rfl, hI, h⟩
         ·
          replace h := h.2 hc73_
          refine W_skip ?_
          refine then_n (k68 _ _ ?_)
          clear k68 K68
          refine W_seq_k fun K75 k75 => ?_
          refine W_drawF [84, 85, 86, 87, 88, 89, 90, 91, 92, 93, 94, 95, 96, 97, 6] [(0, true), (1, true), (2, true), (3, true), (5, true), (6, true), (7, true), (8, true), (4, false), (9, false), (10, true), (11, true), (12, false), (13, true), (14, true)] TJmOpens.hm rfl (by kernel_rfl) fun ops76_ w76_ hops76_ hF76_ => ?_
          replace hI := hI.fr0 hF76_
          replace ht33b_o0 := ht33b_o0.fr0 hF76_
          replace ht33b_o1 := ht33b_o1.fr0 hF76_
          replace ht33b_o2 := ht33b_o2.fr0 hF76_
          clear hF76_
          refine HSp (R_move rfl) rfl rfl (HSp (R_ptrNil Try.underlying68 rfl rfl) rfl rfl (HSp (R_move rfl) rfl rfl ?_))
          refine HS_pass rfl rfl ?_
          refine HS_pass rfl rfl ?_
          refine HS_pass rfl rfl ?_
          refine HS_pass rfl rfl ?_
          refine HS_pass rfl rfl ?_
          refine HS_passL rfl rfl ?_
          refine HS_passL rfl rfl ?_
          refine HSp (R_pick_true rfl rfl) rfl rfl (HSp (R_move rfl) rfl rfl ?_)
          refine HS_call [] _ rfl (by rw [hops76_]; kernel_rfl) (C_func bd12 rfl) rfl rfl ?_
          refine (sealskinlaw06_awake_ok  hI.st (hg.up hI.le)  h).mono ?_
          rintro _ w77_ ⟨r77_0, L77_, H77_, rfl, hI77_, h⟩
          refine Exists.elim (hI.call hI77_ (by simp)) fun L770_ h77_ => ?_
          have hz77_ := hI.size
          replace hI := h77_.1
          have u77_ := h77_.2.1
          have hl77_ := h77_.2.2
          clear h77_
          clear hI77_ u77_ hl77_
          refine ⟨_, rfl, trivial, ?_⟩
          refine HSp (R_pick_true rfl rfl) rfl rfl (HSp (R_assign rfl) rfl rfl ?_)
          refine HS_nil ?_
          clear hops76_
          refine then_n (k75 _ _ ?_)
          clear k75 K75
          refine W_keepB [6] fun B_ b_ => ?_
          simp only [e_, Nat.reduceAdd, Nat.reduceBEq] at b_
          subst b_
          refine W_ret ?_
          refine ⟨_, ⟨_, _, rfl, rfl, rfl⟩, ?_⟩
          exact ⟨r77_0, _, _, rfl, hI, h⟩
       ·
        have hge0_o1_66b := hge_o1_66b
        replace hge_o1_66b := Nat.le_trans hI.size hge_o1_66b
        refine Exists.elim (hI.call hI66b_ (new1 hge_o0_13b)) fun L66b0_ h66b_ => ?_
        have hz66b_ := hI.size
        replace hI := h66b_.1
        have u66b_ := h66b_.2.1
        have hl66b_ := h66b_.2.2
        clear h66b_
        replace hso0_13b_14_1 := hso0_13b_14_1.up u66b_.hh
        replace hso0_13b_14_2 := hso0_13b_14_2.up u66b_.hh
        replace hso0_13b_14_3 := hso0_13b_14_3.up u66b_.hh
        replace ht33b_o0 := ht33b_o0.up u66b_ (ht33b_o0.apart hto0_13b_14 (by decide))
        replace hs33b_o0_1 := hs33b_o0_1.up u66b_.hh
        replace hs33b_o0_2 := hs33b_o0_2.up u66b_.hh
        replace hs33b_o0_3 := hs33b_o0_3.up u66b_.hh
        replace ht33b_o1 := ht33b_o1.up u66b_ (ht33b_o1.apart hto0_13b_14 (by decide))
        replace hs33b_o1_1 := hs33b_o1_1.up u66b_.hh
        replace ht33b_o2 := ht33b_o2.up u66b_.hh u66b_ (ht33b_o2.neT hto0_13b_14)
        clear hto0_13b_14
        clear hI66b_ u66b_ hl66b_
        refine ⟨_, rfl, ?_⟩
        refine Ops_step (R_move rfl) rfl rfl ?_
        refine Ops_step (R_extract (v := .pointer (some ⟨o1_66b, 0, none⟩)) rfl rfl) rfl rfl ?_
        refine Ops_step (R_extract (v := vi r66b_1) rfl rfl) rfl rfl ?_
        refine Ops_step (R_assign rfl) rfl rfl (Ops_step (R_assign rfl) rfl rfl ?_)
        refine Ops_nil ?_
        refine then_n (k65 _ _ ?_)
        clear k65 K65
        refine W_keepB [7, 9, 13, 14, 15, 16] fun B_ b_ => ?_
        simp only [e_, Nat.reduceAdd, Nat.reduceBEq] at b_
        subst b_
        refine W_seq_k fun K80 k80 => ?_
        refine ex_ h fun J81_ hr81_ h => ?_
        refine W_seq_join [13, 15] [83] (fun vals_ w2 => ∃ (x83_81 : Bool) (L H : Gh), vals_ = [.bool x83_81] ∧ J81_ x83_81 ∧ Inv [] G w L H w2 ∧ Le L66b0_ L ∧ Le H66b_ H ∧ Tok H w2 o0_10b 53 ([.slice A33b_o0_1 y33b_o0.files_.e0_.length c33b_o0_1, .slice A33b_o0_2 y33b_o0.files_.e1_.length c33b_o0_2, .slice A33b_o0_3 y33b_o0.files_.e2_.length c33b_o0_3, vi y33b_o0.room_, .bool y33b_o0.off_, .bool y33b_o0.armed_, vi y33b_o0.left_]) ∧ Tok H w2 o1_33b 46 ([.slice A33b_o1_1 y33b_o1.book_.l_.length c33b_o1_1, .map (some o2_33b), .pointer (some ⟨o0_10b, 0, none⟩), vi y33b_o1.gen_, vi y33b_o1.place_]) ∧ MTok H H w2 o2_33b y33b_o2 ∧ Tok H w2 o0_13b 81 ([.slice A66b_o0_1 y66b_o0.F_.e0_.length c66b_o0_1, .slice A66b_o0_2 y66b_o0.F_.e1_.length c66b_o0_2, .slice A66b_o0_3 y66b_o0.F_.e2_.length c66b_o0_3, vi y66b_o0.Room_, .bool y66b_o0.Off_, vi y66b_o0.Fuse_]) ∧ Tok H w2 o1_66b 73 ([.slice A66b_o1_1 y66b_o1.L_.length c66b_o1_1, .pointer (some ⟨o0_13b, 0, none⟩), vi y66b_o1.Gen_, vi y66b_o1.File_]) ∧ True) (fun B_ b_ => ?_) (fun B_ b_ => ?_)
        ·
         simp only [e_, Nat.reduceAdd, Nat.reduceBEq] at b_
         subst b_
         clear hr81_
         have hll81_ := Le.refl L66b0_
         have hhh81_ := Le.refl H66b_
         refine W_region [68, 69, 70, 71, 72, 73, 74, 75, 76, 77, 78, 79, 80, 81, 82, 83] rfl (Ops_step (R_move rfl) rfl rfl (Ops_step (R_move rfl) rfl rfl (Ops_step (R_neq rfl rfl) rfl rfl (Ops_step (R_move rfl) rfl rfl ?_))))
         refine Ops_split 71 rfl (fun hg82_ => ?_) (fun hg82_ => ?_)
         ·
          replace h := h.1 hg82_
          refine Ops_pass rfl rfl (Ops_pass rfl rfl (Ops_pass rfl rfl (Ops_pass rfl rfl (Ops_pass rfl rfl ?_))))
          refine Ops_step (R_pick_true rfl rfl) rfl rfl (Ops_step (R_move rfl) rfl rfl (Ops_pass rfl rfl (Ops_pass rfl rfl (Ops_pass rfl rfl ?_))))
          refine Ops_pass rfl rfl (Ops_step (R_pick_true rfl rfl) rfl rfl ?_)
          refine Ops_nil ?_
          refine then_n ?_
          exact ⟨_, rfl, ⟨true, _, _, rfl, h, hI, hll81_, hhh81_, ht33b_o0, ht33b_o1, ht33b_o2, ht66b_o0, ht66b_o1, trivial⟩, ⟨rfl, rfl, trivial⟩⟩
         ·
          replace h := h.2 hg82_
          refine Ops_step (R_move rfl) rfl rfl (Ops_step (R_ptrNil Try.underlying26 rfl rfl) rfl rfl (Ops_step (R_move rfl) rfl rfl (Ops_step (R_ptrNil Try.underlying68 rfl rfl) rfl rfl (Ops_step (R_boolNe Try.underlying4 rfl rfl) rfl rfl ?_))))
          refine Ops_step (R_pick_false rfl rfl) rfl rfl (Ops_step (R_move rfl) rfl rfl ?_)
          refine Ops_splitB 78 rfl (fun hg83_ => ?_) (fun hg83_ => ?_)
          ·
           replace h := h.1 hg83_
           refine Ops_pass rfl rfl (Ops_pass rfl rfl (Ops_pass rfl rfl (Ops_pass rfl rfl (Ops_step (R_pick_true rfl rfl) rfl rfl ?_))))
           refine Ops_nil ?_
           refine then_n ?_
           exact ⟨_, rfl, ⟨true, _, _, rfl, h, hI, hll81_, hhh81_, ht33b_o0, ht33b_o1, ht33b_o2, ht66b_o0, ht66b_o1, trivial⟩, ⟨rfl, rfl, trivial⟩⟩
          ·
           replace h := h.2 hg83_
           refine Ops_step (R_move rfl) rfl rfl (Ops_step (R_move rfl) rfl rfl ?_)
           refine Ops_call (C_func bd29 rfl) rfl rfl ?_
           refine (sealskinlaw06_face_ok (z0 := y33b_o0) (z1 := y66b_o0) hI.st (hg.up hI.le) ht33b_o0 hc33b_o0_1 hs33b_o0_1 hc33b_o0_2 hs33b_o0_2 hc33b_o0_3 hs33b_o0_3 ht66b_o0 hc66b_o0_1 hs66b_o0_1 hc66b_o0_2 hs66b_o0_2 hc66b_o0_3 hs66b_o0_3 h).mono ?_
           rintro _ w84_ ⟨r84_0, L84_, H84_, rfl, hI84_, h⟩
           refine Exists.elim (hI.call hI84_ (by simp)) fun L840_ h84_ => ?_
           have hz84_ := hI.size
           replace hI := h84_.1
           have u84_ := h84_.2.1
           have hl84_ := h84_.2.2
           clear h84_
           replace ht33b_o0 := ht33b_o0.up u84_ (by simp)
           replace hs33b_o0_1 := hs33b_o0_1.up u84_.hh
           replace hs33b_o0_2 := hs33b_o0_2.up u84_.hh
           replace hs33b_o0_3 := hs33b_o0_3.up u84_.hh
           replace ht33b_o1 := ht33b_o1.up u84_ (by simp)
           replace hs33b_o1_1 := hs33b_o1_1.up u84_.hh
           replace ht33b_o2 := ht33b_o2.up u84_.hh u84_ (by simp)
           replace ht66b_o0 := ht66b_o0.up u84_ (by simp)
           replace hs66b_o0_1 := hs66b_o0_1.up u84_.hh
           replace hs66b_o0_2 := hs66b_o0_2.up u84_.hh
           replace hs66b_o0_3 := hs66b_o0_3.up u84_.hh
           replace ht66b_o1 := ht66b_o1.up u84_ (by simp)
           replace hs66b_o1_1 := hs66b_o1_1.up u84_.hh
           replace hll81_ := hll81_.trans u84_.ll
           replace hhh81_ := hhh81_.trans u84_.hh
           clear hI84_ u84_ hl84_
           refine ⟨_, rfl, ?_⟩
           refine Ops_step (R_not rfl) rfl rfl (Ops_step (R_pick_false rfl rfl) rfl rfl ?_)
           refine Ops_nil ?_
           refine then_n ?_
           exact ⟨_, rfl, ⟨(!r84_0), _, _, rfl, h, hI, hll81_, hhh81_, ht33b_o0, ht33b_o1, ht33b_o2, ht66b_o0, ht66b_o1, trivial⟩, ⟨rfl, rfl, trivial⟩⟩
        ·
         simp only [e_, Nat.reduceAdd, Nat.reduceBEq] at b_
         subst b_
         clear h
         clear ht33b_o0
         clear ht33b_o1
         clear ht33b_o2
         clear ht66b_o0
         clear ht66b_o1
         rintro _ w81_ ⟨x83_81, L81_, H81_, rfl, hJ81_, hI81_, hll81_, hhh81_, ht33b_o0, ht33b_o1, ht33b_o2, ht66b_o0, ht66b_o1, -⟩
         replace hI := hI81_
         clear hI81_
         have h := hr81_ x83_81 hJ81_
         clear hr81_ hJ81_
         replace hs33b_o0_1 := hs33b_o0_1.up hhh81_
         replace hs33b_o0_2 := hs33b_o0_2.up hhh81_
         replace hs33b_o0_3 := hs33b_o0_3.up hhh81_
         replace hs33b_o1_1 := hs33b_o1_1.up hhh81_
         replace hs66b_o0_1 := hs66b_o0_1.up hhh81_
         replace hs66b_o0_2 := hs66b_o0_2.up hhh81_
         replace hs66b_o0_3 := hs66b_o0_3.up hhh81_
         replace hs66b_o1_1 := hs66b_o1_1.up hhh81_
         refine W_cond rfl (fun hc85_ => ?_) (fun hc85_ => ?_)
         ·
          replace h := h.1 hc85_
          refine W_seq_k fun K86 k86 => ?_
          refine W_region [6] rfl (Ops_step (R_assign rfl) rfl rfl ?_)
          refine Ops_nil ?_
          refine then_n (k86 _ _ ?_)
          clear k86 K86
          refine W_ret ?_
          refine then_ret ?_
          clear k80 K80
          refine ⟨_, ⟨_, _, rfl, rfl, rfl⟩, ?_⟩
          exact ⟨false, _, _, rfl, hI, h⟩
         ·
          replace h := h.2 hc85_
          refine W_skip ?_
          refine then_n (k80 _ _ ?_)
          clear k80 K80
          refine W_seq_k fun K87 k87 => ?_
          refine W_drawF [84, 85, 86, 87, 88, 89, 90, 91, 92, 93, 94, 95, 96, 97, 6] [(0, true), (1, true), (2, true), (3, true), (5, true), (6, true), (7, true), (8, true), (4, false), (9, false), (10, true), (11, true), (12, false), (13, true), (14, true)] TJmOpens.hm rfl (by kernel_rfl) fun ops88_ w88_ hops88_ hF88_ => ?_
          replace hI := hI.fr0 hF88_
          replace ht33b_o0 := ht33b_o0.fr0 hF88_
          replace ht33b_o1 := ht33b_o1.fr0 hF88_
          replace ht33b_o2 := ht33b_o2.fr0 hF88_
          replace ht66b_o0 := ht66b_o0.fr0 hF88_
          replace ht66b_o1 := ht66b_o1.fr0 hF88_
          clear hF88_
          refine HSp (R_move rfl) rfl rfl (HSp (R_ptrNil Try.underlying68 rfl rfl) rfl rfl (HSp (R_move rfl) rfl rfl (HSp (R_move rfl) rfl rfl (HSp (R_move rfl) rfl rfl ?_))))
          refine HSp (R_nilCheck rfl) rfl rfl (HSp (R_fieldAddr fo73_0 rfl) rfl rfl ?_)
          refine HS_loadB (v := .slice A66b_o1_1 y66b_o1.L_.length c66b_o1_1) ag36 rfl ht66b_o1.blk rfl rfl rfl ?_
          refine HS_call [8] _ rfl (by rw [hops88_]; kernel_rfl) (C_func bd16 rfl) rfl rfl ?_
          refine (sealskinlaw06_records_ok (z0 := y33b_o1) (z1 := y33b_o2) (z2 := y33b_o0) hI.st (hg.up hI.le) ht33b_o2 ht33b_o0 hc33b_o0_1 hs33b_o0_1 hc33b_o0_2 hs33b_o0_2 hc33b_o0_3 hs33b_o0_3 ht33b_o1 hc33b_o1_1 hs33b_o1_1 h).mono ?_
          rintro _ w89_ ⟨A89_0, c89_0, r89_0, L89_, H89_, rfl, hI89_, ho89_0, h⟩
          refine Exists.elim (hI.call hI89_ (by simp)) fun L890_ h89_ => ?_
          have hz89_ := hI.size
          replace hI := h89_.1
          have u89_ := h89_.2.1
          have hl89_ := h89_.2.2
          clear h89_
          replace hs33b_o0_1 := hs33b_o0_1.up u89_.hh
          replace hs33b_o0_2 := hs33b_o0_2.up u89_.hh
          replace hs33b_o0_3 := hs33b_o0_3.up u89_.hh
          replace hs33b_o1_1 := hs33b_o1_1.up u89_.hh
          replace hs66b_o1_1 := hs66b_o1_1.up u89_.hh
          replace ht33b_o0 := ht33b_o0.up u89_ (by simp)
          replace ht33b_o1 := ht33b_o1.up u89_ (by simp)
          replace ht33b_o2 := ht33b_o2.up u89_.hh u89_ (by simp)
          replace ht66b_o1 := ht66b_o1.up u89_ (by simp)
          replace ho89_0 := OwnS.back ho89_0 hz89_ hl89_ (Le.refl _)
          clear hI89_ u89_ hl89_
          refine ⟨_, rfl, ⟨(ht66b_o1.blk.at_ rfl), trivial⟩, ?_⟩
          refine Exists.elim (ho89_0.freeze hI) fun L90_ h90_ => Exists.elim h90_ fun H90_ h90_ => ?_
          replace hI := h90_.1
          have u90_ := h90_.2.1
          have hs90_ := h90_.2.2.1 (Le.refl _)
          have hc90_ := ho89_0.cap
          replace hs66b_o1_1 := hs66b_o1_1.up u90_.hh
          replace ht66b_o1 := ht66b_o1.up u90_ (ht66b_o1.sep ho89_0 (by decide))
          clear h90_ u90_ ho89_0
          refine HS_call [] _ rfl (by rw [hops88_]; kernel_rfl) (C_func bd23 rfl) rfl rfl ?_
          refine (slices_Equal_sealskinref06_Record_sealskinref06_Record_ok (x0 := r89_0) (x1 := y66b_o1.L_) hI.st (hg.up hI.le) hc90_ (hs90_.up hI.sub) hc66b_o1_1 hs66b_o1_1 h).mono ?_
          rintro _ w91_ ⟨r91_0, L91_, H91_, rfl, hI91_, h⟩
          refine Exists.elim (hI.call hI91_ (by simp)) fun L910_ h91_ => ?_
          have hz91_ := hI.size
          replace hI := h91_.1
          have u91_ := h91_.2.1
          have hl91_ := h91_.2.2
          clear h91_
          replace ht66b_o1 := ht66b_o1.up u91_ (by simp)
          clear hI91_ u91_ hl91_
          refine ⟨_, rfl, trivial, ?_⟩
          refine HSp (R_pick_false rfl rfl) rfl rfl (HSp (R_move rfl) rfl rfl ?_)
          refine HS_splitB 95 rfl (fun hg92_ => ?_) (fun hg92_ => ?_)
          ·
           replace h := h.1 hg92_
           refine HS_call [] _ rfl (by rw [hops88_]; kernel_rfl) (C_func bd12 rfl) rfl rfl ?_
           refine (sealskinlaw06_awake_ok  hI.st (hg.up hI.le)  h).mono ?_
           rintro _ w93_ ⟨r93_0, L93_, H93_, rfl, hI93_, h⟩
           refine Exists.elim (hI.call hI93_ (by simp)) fun L930_ h93_ => ?_
           have hz93_ := hI.size
           replace hI := h93_.1
           have u93_ := h93_.2.1
           have hl93_ := h93_.2.2
           clear h93_
           clear hI93_ u93_ hl93_
           refine ⟨_, rfl, trivial, ?_⟩
           refine HSp (R_pick_true rfl rfl) rfl rfl (HSp (R_assign rfl) rfl rfl ?_)
           refine HS_nil ?_
           clear hops88_
           refine then_n (k87 _ _ ?_)
           clear k87 K87
           refine W_keepB [6] fun B_ b_ => ?_
           simp only [e_, Nat.reduceAdd, Nat.reduceBEq] at b_
           subst b_
           refine W_ret ?_
           refine ⟨_, ⟨_, _, rfl, rfl, rfl⟩, ?_⟩
           exact ⟨r93_0, _, _, rfl, hI, h⟩
          ·
           replace h := h.2 hg92_
           refine HS_passL rfl rfl ?_
           refine HSp (R_pick_false rfl rfl) rfl rfl (HSp (R_assign rfl) rfl rfl ?_)
           refine HS_nil ?_
           clear hops88_
           refine then_n (k87 _ _ ?_)
           clear k87 K87
           refine W_keepB [6] fun B_ b_ => ?_
           simp only [e_, Nat.reduceAdd, Nat.reduceBEq] at b_
           subst b_
           refine W_ret ?_
           refine ⟨_, ⟨_, _, rfl, rfl, rfl⟩, ?_⟩
           exact ⟨false, _, _, rfl, hI, h⟩

end Go.Proofs.Ytkmljjhjojolcaa

