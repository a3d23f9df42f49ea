/- What is shown of the program on the way to the law. -/
import Derived.Test.YtkmljjhjojolcaaZk3
import Derived.Test.YtkmljjhjojolcaaZk4
import Derived.Test.YtkmljjhjojolcaaZk5
import Derived.Test.YtkmljjhjojolcaaZk9
import Derived.Test.YtkmljjhjojolcaaZk10
import Derived.Test.YtkmljjhjojolcaaZk11
import Derived.Test.YtkmljjhjojolcaaProg
set_option linter.unusedVariables false
set_option linter.unusedSimpArgs false
set_option maxHeartbeats 4000000
namespace Go.Proofs.Ytkmljjhjojolcaa
open Go Go.Sx Go.Lx
namespace TJmKept
theorem hm : Try.prog.follows .mixedOrders = true := by kernel_rfl
theorem ag29 : aggB Try.prog 29 = some false := by kernel_rfl
theorem ag3 : aggB Try.prog 3 = some false := by kernel_rfl
theorem ag31 : aggB Try.prog 31 = some true := by kernel_rfl
theorem ag39 : aggB Try.prog 39 = some true := by kernel_rfl
theorem ag9 : aggB Try.prog 9 = some false := by kernel_rfl
theorem bd11 : bodied Try.prog 11 = true := by kernel_rfl
theorem bd12 : bodied Try.prog 12 = true := by kernel_rfl
theorem bd13 : bodied Try.prog 13 = true := by kernel_rfl
theorem bd14 : bodied Try.prog 14 = true := by kernel_rfl
theorem bd15 : bodied Try.prog 15 = true := by kernel_rfl
theorem bd16 : bodied Try.prog 16 = true := by kernel_rfl
theorem bd20 : bodied Try.prog 20 = true := by kernel_rfl
theorem bd21 : bodied Try.prog 21 = true := by kernel_rfl
theorem bd22 : bodied Try.prog 22 = true := by kernel_rfl
theorem bd23 : bodied Try.prog 23 = true := by kernel_rfl
theorem el36 : Elem Try.prog 36 39 2 24 := Elem.of (by kernel_rfl)
theorem fd39 : fldsB Try.prog 39 = some [(true, 0, 3), (true, 1, 9)] := by kernel_rfl
theorem fo31_0 : offB Try.prog 31 0 = some 0 := by kernel_rfl
theorem fo31_1 : offB Try.prog 31 1 = some 1 := by kernel_rfl
theorem fo31_3 : offB Try.prog 31 3 = some 3 := by kernel_rfl
theorem pl39 : partPl Try.prog 39 = some [(0, 1), (1, 1)] := by kernel_rfl
theorem sz31 : sz Try.prog 31 = some 4 := by kernel_rfl
theorem sz39 : sz Try.prog 39 = some 2 := by kernel_rfl
theorem zr31 : zr Try.prog 31 = some ([.int .i64 0] ++ [.int .i64 0] ++ [.int .i64 0] ++ [.slice none 0 0]) := by kernel_rfl
theorem zr39 : zr Try.prog 39 = some ([.int .i64 0] ++ [.string ByteArray.empty]) := by kernel_rfl
end TJmKept
open TJmKept
theorem sealskinlaw06_JournalKept_ok {G : Gh} {w : World} (hS : St G w) (hg : GL G) {A0 : Option Addr} {c0 : Nat} {x0 : List sealskinlaw06_Do} (hc0 : x0.length ≤ c0) (hs0 : Sl G A0 x0) {x1 : Int} {Q : Bool → Prop} (h : sealskinlaw06_JournalKept x0 x1 Q) : Calls Try.prog 5 #[.slice A0 x0.length c0, vi x1] w fun e w2 => ∃ (r0 : Bool) (L H : Gh), e = .returned (.bool r0) ∧ Inv [] G w L H w2 ∧ Q r0 := by
 unfold sealskinlaw06_JournalKept at h
 have hI := Inv.start (M := []) hS
 refine calls_W 113 Try.func5 rfl Try.ntmps5 rfl [.tmp 4] rfl ?_
 refine W_seq_k fun K1 k1 => ?_
 refine W_region [4] rfl (Ops_step (R_assign rfl) rfl rfl ?_)
 refine Ops_nil ?_
 refine then_n (k1 _ _ ?_)
 clear k1 K1
 refine W_seq_k fun K2 k2 => ?_
 refine W_seq_k fun K3 k3 => ?_
 refine W_region [17, 18, 19] rfl (Ops_step (R_move rfl) rfl rfl ?_)
 refine Ops_call (C_func bd11 rfl) rfl rfl ?_
 refine (sealskinlaw06_short_ok (x0 := x0) hI.st (hg.up hI.le) hc0 hs0 h).mono ?_
 rintro _ w4_ ⟨r4_0, L4_, H4_, rfl, hI4_, h⟩
 refine Exists.elim (hI.call hI4_ (by simp)) fun L40_ h4_ => ?_
 have hz4_ := hI.size
 replace hI := h4_.1
 have u4_ := h4_.2.1
 have hl4_ := h4_.2.2
 clear h4_
 replace hs0 := hs0.up u4_.hh
 clear hI4_ u4_ hl4_
 refine ⟨_, rfl, ?_⟩
 refine Ops_step (R_not rfl) rfl rfl ?_
 refine Ops_nil ?_
 refine then_n (k3 _ _ ?_)
 clear k3 K3
 refine W_cond rfl (fun hc5_ => ?_) (fun hc5_ => ?_)
 ·
  replace h := h.1 hc5_
  refine W_seq_k fun K6 k6 => ?_
  refine W_region [20, 4] rfl ?_
  refine Ops_call (C_func bd12 rfl) rfl rfl ?_
  refine (sealskinlaw06_awake_ok  hI.st (hg.up hI.le)  h).mono ?_
  rintro _ w7_ ⟨r7_0, L7_, H7_, rfl, hI7_, h⟩
  refine Exists.elim (hI.call hI7_ (by simp)) fun L70_ h7_ => ?_
  have hz7_ := hI.size
  replace hI := h7_.1
  have u7_ := h7_.2.1
  have hl7_ := h7_.2.2
  clear h7_
  clear hI7_ u7_ hl7_
  refine ⟨_, rfl, ?_⟩
  refine Ops_step (R_assign rfl) rfl rfl ?_
  refine Ops_nil ?_
  refine then_n (k6 _ _ ?_)
  clear k6 K6
  refine W_keepB [4] fun B_ b_ => ?_
  simp only [e_, Nat.reduceAdd, Nat.reduceBEq] at b_
  subst b_
  refine W_ret ?_
  refine then_ret ?_
  clear k2 K2
  refine ⟨_, ⟨_, _, rfl, rfl, rfl⟩, ?_⟩
  exact ⟨r7_0, _, _, rfl, hI, h⟩
 ·
  replace h := h.2 hc5_
  refine W_skip ?_
  refine then_n (k2 _ _ ?_)
  clear k2 K2
  refine W_seq_k fun K9 k9 => ?_
  refine W_region [22, 21, 23, 24, 25, 5, 6, 7] rfl ?_
  refine Ops_call (C_func bd13 rfl) rfl rfl ?_
  refine (sealskinlaw06_begun_ok  hI.st (hg.up hI.le)  h).mono ?_
  rintro _ w10_ ⟨r10_2, o0_10, y10_o0, A10_o0_1, c10_o0_1, A10_o0_2, c10_o0_2, A10_o0_3, c10_o0_3, o1_10, y10_o1, A10_o1_1, c10_o1_1, o2_10, y10_o2, L10_, H10_, rfl, hI10_, hge_o0_10, ht10_o0, hc10_o0_1, hs10_o0_1, hc10_o0_2, hs10_o0_2, hc10_o0_3, hs10_o0_3, hge_o1_10, ht10_o1, hc10_o1_1, hs10_o1_1, hge_o2_10, ht10_o2, h⟩
  have hge0_o0_10 := hge_o0_10
  replace hge_o0_10 := Nat.le_trans hI.size hge_o0_10
  have hge0_o1_10 := hge_o1_10
  replace hge_o1_10 := Nat.le_trans hI.size hge_o1_10
  have hge0_o2_10 := hge_o2_10
  replace hge_o2_10 := Nat.le_trans hI.size hge_o2_10
  refine Exists.elim (hI.call hI10_ (by simp)) fun L100_ h10_ => ?_
  have hz10_ := hI.size
  replace hI := h10_.1
  have u10_ := h10_.2.1
  have hl10_ := h10_.2.2
  clear h10_
  replace hs0 := hs0.up u10_.hh
  clear hI10_ u10_ hl10_
  refine ⟨_, rfl, ?_⟩
  refine Ops_step (R_move rfl) rfl rfl ?_
  refine Ops_step (R_extract (v := .pointer (some ⟨o0_10, 0, none⟩)) rfl rfl) rfl rfl ?_
  refine Ops_step (R_extract (v := .pointer (some ⟨o1_10, 0, none⟩)) rfl rfl) rfl rfl ?_
  refine Ops_step (R_extract (v := .bool r10_2) rfl rfl) rfl rfl ?_
  refine Ops_step (R_assign rfl) rfl rfl (Ops_step (R_assign rfl) rfl rfl (Ops_step (R_assign rfl) rfl rfl ?_))
  refine Ops_nil ?_
  refine then_n (k9 _ _ ?_)
  clear k9 K9
  refine W_keepB [0, 1, 5, 6, 7] fun B_ b_ => ?_
  simp only [e_, Nat.reduceAdd, Nat.reduceBEq] at b_
  subst b_
  refine W_seq_k fun K12 k12 => ?_
  refine ex_ h fun J13_ hr13_ h => ?_
  refine W_seq_join [0, 5, 6] [37] (fun vals_ w2 => ∃ (x37_13 : Bool) (yo0_10_13 : disk_Disk) (Ao0_10_13_1 : Option Addr) (co0_10_13_1 : Nat) (Ao0_10_13_2 : Option Addr) (co0_10_13_2 : Nat) (Ao0_10_13_3 : Option Addr) (co0_10_13_3 : Nat) (L H : Gh), vals_ = [.bool x37_13] ∧ J13_ x37_13 yo0_10_13 ∧ Inv [] G w L H w2 ∧ Le L100_ L ∧ Le H10_ H ∧ Tok H w2 o0_10 53 ([.slice Ao0_10_13_1 yo0_10_13.files_.e0_.length co0_10_13_1, .slice Ao0_10_13_2 yo0_10_13.files_.e1_.length co0_10_13_2, .slice Ao0_10_13_3 yo0_10_13.files_.e2_.length co0_10_13_3, vi yo0_10_13.room_, .bool yo0_10_13.off_, .bool yo0_10_13.armed_, vi yo0_10_13.left_]) ∧ yo0_10_13.files_.e0_.length ≤ co0_10_13_1 ∧ Sl H Ao0_10_13_1 yo0_10_13.files_.e0_ ∧ yo0_10_13.files_.e1_.length ≤ co0_10_13_2 ∧ Sl H Ao0_10_13_2 yo0_10_13.files_.e1_ ∧ yo0_10_13.files_.e2_.length ≤ co0_10_13_3 ∧ Sl H Ao0_10_13_3 yo0_10_13.files_.e2_ ∧ Tok H w2 o1_10 46 ([.slice A10_o1_1 y10_o1.book_.l_.length c10_o1_1, .map (some o2_10), .pointer (some ⟨o0_10, 0, none⟩), vi y10_o1.gen_, vi y10_o1.place_]) ∧ MTok H H w2 o2_10 y10_o2 ∧ True) (fun B_ b_ => ?_) (fun B_ b_ => ?_)
  ·
   simp only [e_, Nat.reduceAdd, Nat.reduceBEq] at b_
   subst b_
   clear hr13_
   have hll13_ := Le.refl L100_
   have hhh13_ := Le.refl H10_
   refine W_region [26, 27, 28, 29, 30, 31, 32, 33, 34, 35, 36, 37] rfl (Ops_step (R_move rfl) rfl rfl (Ops_step (R_not rfl) rfl rfl (Ops_step (R_move rfl) rfl rfl ?_)))
   refine Ops_splitB 28 rfl (fun hg14_ => ?_) (fun hg14_ => ?_)
   ·
    replace h := h.1 hg14_
    refine Ops_pass rfl rfl (Ops_pass rfl rfl (Ops_pass rfl rfl (Ops_pass rfl rfl (Ops_pass rfl rfl ?_))))
    refine Ops_pass rfl rfl (Ops_pass rfl rfl (Ops_pass rfl rfl (Ops_step (R_pick_true rfl rfl) rfl rfl ?_)))
    refine Ops_nil ?_
    refine then_n ?_
    exact ⟨_, rfl, ⟨true, y10_o0, A10_o0_1, c10_o0_1, A10_o0_2, c10_o0_2, A10_o0_3, c10_o0_3, _, _, rfl, h, hI, hll13_, hhh13_, ht10_o0, hc10_o0_1, hs10_o0_1, hc10_o0_2, hs10_o0_2, hc10_o0_3, hs10_o0_3, ht10_o1, ht10_o2, trivial⟩, ⟨rfl, rfl, rfl, trivial⟩⟩
   ·
    replace h := h.2 hg14_
    refine Ops_step (R_move rfl) rfl rfl (Ops_step (R_move rfl) rfl rfl (Ops_step (R_conv Try.underlying3 Try.underlying59 rfl (cI_64 _)) rfl rfl (Ops_step (R_rem rfl rfl (by decide) (rem64 (BitVec.ofInt 64 x1) (3000#64))) rfl rfl ?_)))
    have hk15_ := h.1
    replace h := h.2
    refine Ops_step (R_conv Try.underlying59 Try.underlying3 rfl (c64_I _ hk15_)) rfl rfl ?_
    have hk16_ := h.1
    replace h := h.2
    refine Ops_step (R_add rfl rfl (wI hk16_.1 hk16_.2)) rfl rfl ?_
    refine Ops_call (C_func bd21 rfl) rfl rfl ?_
    refine (disk_Disk_Arm_ok (x1 := (1 + (((BitVec.ofInt 64 x1) % (3000#64)).toNat : Int))) (z0 := y10_o0) hI.st (hg.up hI.le) ht10_o0 hc10_o0_1 hs10_o0_1 hc10_o0_2 hs10_o0_2 hc10_o0_3 hs10_o0_3 h).mono ?_
    rintro _ w17_ ⟨r17_0, y17_o0, A17_o0_1, c17_o0_1, A17_o0_2, c17_o0_2, A17_o0_3, c17_o0_3, L17_, H17_, rfl, hI17_, ht17_o0, hc17_o0_1, hs17_o0_1, hc17_o0_2, hs17_o0_2, hc17_o0_3, hs17_o0_3, h⟩
    refine Exists.elim (hI.call hI17_ (new1 hge_o0_10)) fun L170_ h17_ => ?_
    have hz17_ := hI.size
    replace hI := h17_.1
    have u17_ := h17_.2.1
    have hl17_ := h17_.2.2
    clear h17_
    replace hs0 := hs0.up u17_.hh
    replace hs10_o0_1 := hs10_o0_1.up u17_.hh
    replace hs10_o0_2 := hs10_o0_2.up u17_.hh
    replace hs10_o0_3 := hs10_o0_3.up u17_.hh
    replace ht10_o1 := ht10_o1.up u17_ (ht10_o1.apart ht10_o0 (by decide))
    replace hs10_o1_1 := hs10_o1_1.up u17_.hh
    replace ht10_o2 := ht10_o2.up u17_.hh u17_ (ht10_o2.neT ht10_o0)
    replace hll13_ := hll13_.trans u17_.ll
    replace hhh13_ := hhh13_.trans u17_.hh
    clear ht10_o0
    clear hI17_ u17_ hl17_
    refine ⟨_, rfl, ?_⟩
    refine Ops_step (R_neq rfl rfl) rfl rfl (Ops_step (R_pick_false rfl rfl) rfl rfl ?_)
    refine Ops_nil ?_
    refine then_n ?_
    exact ⟨_, rfl, ⟨(decide (r17_0 ≠ 0)), y17_o0, A17_o0_1, c17_o0_1, A17_o0_2, c17_o0_2, A17_o0_3, c17_o0_3, _, _, rfl, h, hI, hll13_, hhh13_, ht17_o0, hc17_o0_1, hs17_o0_1, hc17_o0_2, hs17_o0_2, hc17_o0_3, hs17_o0_3, ht10_o1, ht10_o2, trivial⟩, ⟨rfl, rfl, rfl, trivial⟩⟩
  ·
   simp only [e_, Nat.reduceAdd, Nat.reduceBEq] at b_
   subst b_
   clear h
   clear ht10_o1
   clear ht10_o2
   rintro _ w13_ ⟨x37_13, yo0_10_13, Ao0_10_13_1, co0_10_13_1, Ao0_10_13_2, co0_10_13_2, Ao0_10_13_3, co0_10_13_3, L13_, H13_, rfl, hJ13_, hI13_, hll13_, hhh13_, hto0_10_13, hco0_10_13_1, hso0_10_13_1, hco0_10_13_2, hso0_10_13_2, hco0_10_13_3, hso0_10_13_3, ht10_o1, ht10_o2, -⟩
   replace hI := hI13_
   clear hI13_
   have h := hr13_ x37_13 yo0_10_13 hJ13_
   clear hr13_ hJ13_
   replace hs0 := hs0.up hhh13_
   replace hs10_o1_1 := hs10_o1_1.up hhh13_
   refine W_cond rfl (fun hc18_ => ?_) (fun hc18_ => ?_)
   ·
    replace h := h.1 hc18_
    refine W_seq_k fun K19 k19 => ?_
    refine W_region [4] rfl (Ops_step (R_assign rfl) rfl rfl ?_)
    refine Ops_nil ?_
    refine then_n (k19 _ _ ?_)
    clear k19 K19
    refine W_ret ?_
    refine then_ret ?_
    clear k12 K12
    refine ⟨_, ⟨_, _, rfl, rfl, rfl⟩, ?_⟩
    exact ⟨false, _, _, rfl, hI, h⟩
   ·
    replace h := h.2 hc18_
    refine W_skip ?_
    refine then_n (k12 _ _ ?_)
    clear k12 K12
    refine W_seq_k fun K20 k20 => ?_
    refine W_region [8] rfl (Ops_step (R_assign rfl) rfl rfl ?_)
    refine Ops_nil ?_
    refine then_n (k20 _ _ ?_)
    clear k20 K20
    refine W_seq_k fun K21 k21 => ?_
    refine W_region [9] rfl ?_
    have hI0_ := hI
    refine Ops_to (R_alloc zr39) rfl rfl ?_
    rintro _ w22_ ⟨b22_, rfl, hb22_, hB22_, hF22_⟩
    replace hI := hI.fr0 hF22_
    replace ht10_o1 := ht10_o1.fr0 hF22_
    replace ht10_o2 := ht10_o2.fr0 hF22_
    replace hto0_10_13 := hto0_10_13.fr0 hF22_
    have ht22_ : Tok H13_ _ b22_ 39 ([vi 0, vs (Str.mk [])]) := ⟨hB22_.to rfl, Out.ge hI0_.st (Nat.le_of_eq hb22_.symm)⟩
    have hge_b22_ : w.heap.size ≤ b22_ := hb22_ ▸ hI0_.size
    clear hB22_ hb22_ hI0_ hF22_
    refine Ops_nil ?_
    refine then_n (k21 _ _ ?_)
    clear k21 K21
    refine ex_ h fun J23_ hr23_ h => ?_
    refine W_seq_join [5, 9] [8] (fun vals_ w2 => ∃ (x8_23 : List sealskinref06_Record) (A8_23 : Option Addr) (c8_23 : Nat) (yo0_10_23 : disk_Disk) (Ao0_10_23_1 : Option Addr) (co0_10_23_1 : Nat) (Ao0_10_23_2 : Option Addr) (co0_10_23_2 : Nat) (Ao0_10_23_3 : Option Addr) (co0_10_23_3 : Nat) (yb22__23 : sealskinref06_Record) (L H : Gh), vals_ = [.slice A8_23 x8_23.length c8_23] ∧ J23_ x8_23 yo0_10_23 yb22__23 ∧ Inv [] G w L H w2 ∧ Le L13_ L ∧ Le H13_ H ∧ OwnS w.heap.size 39 L H w2 A8_23 c8_23 x8_23 ∧ Tok H w2 o0_10 53 ([.slice Ao0_10_23_1 yo0_10_23.files_.e0_.length co0_10_23_1, .slice Ao0_10_23_2 yo0_10_23.files_.e1_.length co0_10_23_2, .slice Ao0_10_23_3 yo0_10_23.files_.e2_.length co0_10_23_3, vi yo0_10_23.room_, .bool yo0_10_23.off_, .bool yo0_10_23.armed_, vi yo0_10_23.left_]) ∧ yo0_10_23.files_.e0_.length ≤ co0_10_23_1 ∧ Sl H Ao0_10_23_1 yo0_10_23.files_.e0_ ∧ yo0_10_23.files_.e1_.length ≤ co0_10_23_2 ∧ Sl H Ao0_10_23_2 yo0_10_23.files_.e1_ ∧ yo0_10_23.files_.e2_.length ≤ co0_10_23_3 ∧ Sl H Ao0_10_23_3 yo0_10_23.files_.e2_ ∧ Tok H w2 b22_ 39 ([vi yb22__23.Label_, vs yb22__23.Data_]) ∧ (∀ i ∈ bk A8_23 c8_23, i ∉ [b22_]) ∧ True) (fun B_ b_ => ?_) (fun B_ b_ => ?_)
    ·
     simp only [e_, Nat.reduceAdd, Nat.reduceBEq] at b_
     subst b_
     clear hr23_
     have hll23_ := Le.refl L13_
     have hhh23_ := Le.refl H13_
     refine W_seq_k fun K24 k24 => ?_
     refine W_region [38, 39, 40] rfl (Ops_step (R_move rfl) rfl rfl (Ops_step (R_len Try.underlying22 rfl rfl) rfl rfl (Ops_step (R_move rfl) rfl rfl ?_)))
     refine Ops_nil ?_
     refine then_n (k24 _ _ ?_)
     clear k24 K24
     refine W_block ?_
     refine Exists.elim h fun I25_ h => Exists.elim h fun n25_ h => ?_
     have h0_ := h.1
     have hs25_ := h.2
     clear h
     refine W_loopB [5, 6, 9, 38, 39] [8, 40] (fun m vals_ w2 => ∃ (x8_25 : List sealskinref06_Record) (A8_25 : Option Addr) (c8_25 : Nat) (x40_25 : Int) (yo0_10_25 : disk_Disk) (Ao0_10_25_1 : Option Addr) (co0_10_25_1 : Nat) (Ao0_10_25_2 : Option Addr) (co0_10_25_2 : Nat) (Ao0_10_25_3 : Option Addr) (co0_10_25_3 : Nat) (yo1_10_25 : journal_Journal) (Ao1_10_25_1 : Option Addr) (co1_10_25_1 : Nat) (yo2_10_25 : List (Int × Int)) (L H : Gh), vals_ = [.slice A8_25 x8_25.length c8_25, vi x40_25] ∧ I25_ m x8_25 x40_25 yo0_10_25 yo1_10_25 yo2_10_25 ∧ Inv [] G w L H w2 ∧ Le L13_ L ∧ Le H13_ H ∧ OwnS w.heap.size 39 L H w2 A8_25 c8_25 x8_25 ∧ Tok H w2 o0_10 53 ([.slice Ao0_10_25_1 yo0_10_25.files_.e0_.length co0_10_25_1, .slice Ao0_10_25_2 yo0_10_25.files_.e1_.length co0_10_25_2, .slice Ao0_10_25_3 yo0_10_25.files_.e2_.length co0_10_25_3, vi yo0_10_25.room_, .bool yo0_10_25.off_, .bool yo0_10_25.armed_, vi yo0_10_25.left_]) ∧ yo0_10_25.files_.e0_.length ≤ co0_10_25_1 ∧ Sl H Ao0_10_25_1 yo0_10_25.files_.e0_ ∧ yo0_10_25.files_.e1_.length ≤ co0_10_25_2 ∧ Sl H Ao0_10_25_2 yo0_10_25.files_.e1_ ∧ yo0_10_25.files_.e2_.length ≤ co0_10_25_3 ∧ Sl H Ao0_10_25_3 yo0_10_25.files_.e2_ ∧ Tok H w2 o1_10 46 ([.slice Ao1_10_25_1 yo1_10_25.book_.l_.length co1_10_25_1, .map (some o2_10), .pointer (some ⟨o0_10, 0, none⟩), vi yo1_10_25.gen_, vi yo1_10_25.place_]) ∧ yo1_10_25.book_.l_.length ≤ co1_10_25_1 ∧ Sl H Ao1_10_25_1 yo1_10_25.book_.l_ ∧ MTok H H w2 o2_10 yo2_10_25 ∧ Tok H w2 b22_ 39 ([vi 0, vs (Str.mk [])]) ∧ (∀ i ∈ bk A8_25 c8_25, i ∉ [b22_]) ∧ True) n25_ _ rfl ⟨[], none, 0, 0, yo0_10_13, Ao0_10_13_1, co0_10_13_1, Ao0_10_13_2, co0_10_13_2, Ao0_10_13_3, co0_10_13_3, y10_o1, A10_o1_1, c10_o1_1, y10_o2, _, _, rfl, h0_, hI, Le.refl _, Le.refl _, OwnS.nil, hto0_10_13, hco0_10_13_1, hso0_10_13_1, hco0_10_13_2, hso0_10_13_2, hco0_10_13_3, hso0_10_13_3, ht10_o1, hc10_o1_1, hs10_o1_1, ht10_o2, ht22_, (by simp [bk]), trivial⟩ fun B_ b_ => ?_
     clear h0_
     simp only [e_, Nat.reduceAdd, Nat.reduceBEq] at b_
     subst b_
     clear ht22_
     rintro m25_ _ w25_ ⟨x8_25, A8_25, c8_25, x40_25, yo0_10_25, Ao0_10_25_1, co0_10_25_1, Ao0_10_25_2, co0_10_25_2, Ao0_10_25_3, co0_10_25_3, yo1_10_25, Ao1_10_25_1, co1_10_25_1, yo2_10_25, L25_, H25_, rfl, hJ25_, hI25_, hll25_, hhh25_, ho8_25, hto0_10_25, hco0_10_25_1, hso0_10_25_1, hco0_10_25_2, hso0_10_25_2, hco0_10_25_3, hso0_10_25_3, hto1_10_25, hco1_10_25_1, hso1_10_25_1, hto2_10_25, ht22_, hsq8_3_25, -⟩
     replace hI := hI25_
     clear hI25_
     have h := hs25_ m25_ x8_25 x40_25 yo0_10_25 yo1_10_25 yo2_10_25 hJ25_
     clear hs25_ hJ25_
     replace hs0 := hs0.up hhh25_
     replace hll23_ := hll23_.trans hll25_
     replace hhh23_ := hhh23_.trans hhh25_
     refine W_seq_k fun K26 k26 => ?_
     refine W_region [41] rfl (Ops_step (R_lss rfl rfl) rfl rfl ?_)
     refine Ops_nil ?_
     refine then_n (k26 _ _ ?_)
     clear k26 K26
     refine W_seq_k fun K27 k27 => ?_
     refine W_if rfl (fun hc28_ => ?_) (fun hc28_ => ?_)
     ·
      replace h := h.1 hc28_
      refine W_skip ?_
      refine then_n (k27 _ _ ?_)
      clear k27 K27
      refine ex_ h fun J29_ hr29_ h => ?_
      refine W_seq_join [5, 6, 9, 38, 39, 40] [8] (fun vals_ w2 => ∃ (x8_29 : List sealskinref06_Record) (A8_29 : Option Addr) (c8_29 : Nat) (yo0_10_29 : disk_Disk) (Ao0_10_29_1 : Option Addr) (co0_10_29_1 : Nat) (Ao0_10_29_2 : Option Addr) (co0_10_29_2 : Nat) (Ao0_10_29_3 : Option Addr) (co0_10_29_3 : Nat) (yo1_10_29 : journal_Journal) (Ao1_10_29_1 : Option Addr) (co1_10_29_1 : Nat) (yo2_10_29 : List (Int × Int)) (L H : Gh), vals_ = [.slice A8_29 x8_29.length c8_29] ∧ J29_ x8_29 yo0_10_29 yo1_10_29 yo2_10_29 ∧ Inv [] G w L H w2 ∧ Le L25_ L ∧ Le H25_ H ∧ OwnS w.heap.size 39 L H w2 A8_29 c8_29 x8_29 ∧ Tok H w2 o0_10 53 ([.slice Ao0_10_29_1 yo0_10_29.files_.e0_.length co0_10_29_1, .slice Ao0_10_29_2 yo0_10_29.files_.e1_.length co0_10_29_2, .slice Ao0_10_29_3 yo0_10_29.files_.e2_.length co0_10_29_3, vi yo0_10_29.room_, .bool yo0_10_29.off_, .bool yo0_10_29.armed_, vi yo0_10_29.left_]) ∧ yo0_10_29.files_.e0_.length ≤ co0_10_29_1 ∧ Sl H Ao0_10_29_1 yo0_10_29.files_.e0_ ∧ yo0_10_29.files_.e1_.length ≤ co0_10_29_2 ∧ Sl H Ao0_10_29_2 yo0_10_29.files_.e1_ ∧ yo0_10_29.files_.e2_.length ≤ co0_10_29_3 ∧ Sl H Ao0_10_29_3 yo0_10_29.files_.e2_ ∧ Tok H w2 o1_10 46 ([.slice Ao1_10_29_1 yo1_10_29.book_.l_.length co1_10_29_1, .map (some o2_10), .pointer (some ⟨o0_10, 0, none⟩), vi yo1_10_29.gen_, vi yo1_10_29.place_]) ∧ yo1_10_29.book_.l_.length ≤ co1_10_29_1 ∧ Sl H Ao1_10_29_1 yo1_10_29.book_.l_ ∧ MTok H H w2 o2_10 yo2_10_29 ∧ Tok H w2 b22_ 39 ([vi 0, vs (Str.mk [])]) ∧ (∀ i ∈ bk A8_29 c8_29, i ∉ [b22_]) ∧ True) (fun B_ b_ => ?_) (fun B_ b_ => ?_)
      ·
       simp only [e_, Nat.reduceAdd, Nat.reduceBEq] at b_
       subst b_
       clear hr29_
       have hll29_ := Le.refl L25_
       have hhh29_ := Le.refl H25_
       refine W_block ?_
       refine W_seq_k fun K30 k30 => ?_
       refine W_region [42, 43, 11, none] rfl ?_
       refine ex_ h fun x31_ hx31_ h => ?_
       have ha31_ := (Sl.atN (n := 4) rfl (by decide) hs0 hx31_).1
       refine Exists.elim (Sl.atN (n := 4) rfl (by decide) hs0 hx31_).2 fun l31_ hA31_ => ?_
       have hr31_ := hA31_.1
       have hg31_ := hA31_.2
       clear hA31_
       refine Ops_step (R_indexSl Try.underlying22 sz31 rfl rfl hx31_.1 hx31_.lt ha31_) rfl rfl ?_
       obtain ⟨A31_1, c31_1, rfl, ⟨hc31_1, hs31_1⟩⟩ := hr31_
       refine Ops_step (R_loadCs (cs := [vi x31_.Op_, vi x31_.Label_, vi x31_.N_, .slice A31_1 x31_.B_.length c31_1]) ag31 sz31 rfl (fun j_ v_ hv_ => hI.st _ _ (hg31_ j_ v_ hv_))) rfl rfl ?_
       have hI0_ := hI
       refine Ops_to (R_alloc zr31) rfl rfl ?_
       rintro _ w32_ ⟨b32_, rfl, hb32_, hB32_, hF32_⟩
       replace hI := hI.fr0 hF32_
       replace ht22_ := ht22_.fr0 hF32_
       replace hto0_10_25 := hto0_10_25.fr0 hF32_
       replace hto1_10_25 := hto1_10_25.fr0 hF32_
       replace hto2_10_25 := hto2_10_25.fr0 hF32_
       replace ho8_25 := ho8_25.fr0 hF32_
       have ht32_ : Tok H25_ _ b32_ 31 ([vi 0, vi 0, vi 0, .slice none 0 0]) := ⟨hB32_.to rfl, Out.ge hI0_.st (Nat.le_of_eq hb32_.symm)⟩
       have hge_b32_ : w.heap.size ≤ b32_ := hb32_ ▸ hI0_.size
       clear hB32_ hb32_ hI0_ hF32_
       refine Ops_to0 (R_storeN sz31 rfl rfl rfl ht32_.blk (Nat.le_of_ble_eq_true rfl) rfl) rfl ?_
       rintro _ w33_ ⟨hB33_, hF33_⟩
       replace hI := hI.tok hF33_ (out1 ht32_.out) (new1 hge_b32_)
       replace ht22_ := ht22_.fr hF33_ (ht22_.apart ht32_ (by decide))
       replace hto0_10_25 := hto0_10_25.fr hF33_ (hto0_10_25.apart ht32_ (by decide))
       replace hto1_10_25 := hto1_10_25.fr hF33_ (hto1_10_25.apart ht32_ (by decide))
       replace hto2_10_25 := hto2_10_25.fr hF33_ (hto2_10_25.neT ht32_)
       replace ho8_25 := ho8_25.fr hF33_ (ho8_25.ne ht32_.blk (by decide))
       replace ht32_ : Tok H25_ _ b32_ 31 ([vi x31_.Op_, vi x31_.Label_, vi x31_.N_, .slice A31_1 x31_.B_.length c31_1]) := ⟨hB33_, ht32_.out⟩
       clear hF33_ hB33_
       refine Ops_nil ?_
       refine then_n (k30 _ _ ?_)
       clear k30 K30
       refine W_seq_k fun K34 k34 => ?_
       refine W_seq_k fun K35 k35 => ?_
       refine W_region [44, 45, 46, 47] rfl (Ops_step (R_fieldAddr fo31_0 rfl) rfl rfl ?_)
       refine Ops_step (R_loadB (v := vi x31_.Op_) ag3 rfl ht32_.blk rfl) rfl rfl ?_
       refine Ops_step (R_and rfl rfl (andI_wrap _ _)) rfl rfl (Ops_step (R_eql rfl rfl) rfl rfl ?_)
       refine Ops_nil ?_
       refine then_n (k35 _ _ ?_)
       clear k35 K35
       refine W_keepB [5, 6, 8, 9, 11, 38, 39, 40, 47] fun B_ b_ => ?_
       simp only [e_, Nat.reduceAdd, Nat.reduceBEq] at b_
       subst b_
       refine W_if rfl (fun hc37_ => ?_) (fun hc37_ => ?_)
       ·
        replace h := h.1 hc37_
        refine W_seq_k fun K38 k38 => ?_
        refine W_seq_k fun K39 k39 => ?_
        refine W_region [48, 49, 50] rfl (Ops_step (R_move rfl) rfl rfl ?_)
        refine Ops_call (C_func bd14 rfl) rfl rfl ?_
        refine (journal_Journal_Check_ok (z0 := yo1_10_25) (z1 := yo2_10_25) (z2 := yo0_10_25) hI.st (hg.up hI.le) hto2_10_25 hto0_10_25 hco0_10_25_1 hso0_10_25_1 hco0_10_25_2 hso0_10_25_2 hco0_10_25_3 hso0_10_25_3 hto1_10_25 hco1_10_25_1 hso1_10_25_1 h).mono ?_
        rintro _ w40_ ⟨r40_0, y40_o0, A40_o0_1, c40_o0_1, y40_o2, A40_o2_1, c40_o2_1, A40_o2_2, c40_o2_2, A40_o2_3, c40_o2_3, L40_, H40_, rfl, hI40_, ht40_o0, hc40_o0_1, hs40_o0_1, ht40_o2, hc40_o2_1, hs40_o2_1, hc40_o2_2, hs40_o2_2, hc40_o2_3, hs40_o2_3, h⟩
        refine Exists.elim (hI.call hI40_ (memG hge_o1_10 (memG hge_o0_10 memN))) fun L400_ h40_ => ?_
        have hz40_ := hI.size
        replace hI := h40_.1
        have u40_ := h40_.2.1
        have hl40_ := h40_.2.2
        clear h40_
        replace hs0 := hs0.up u40_.hh
        replace hll23_ := hll23_.trans u40_.ll
        replace hhh23_ := hhh23_.trans u40_.hh
        replace ht22_ := ht22_.up u40_ (niA (ht22_.apart hto1_10_25 (by decide)) (niA (ht22_.apart hto0_10_25 (by decide)) List.not_mem_nil))
        replace hso0_10_25_1 := hso0_10_25_1.up u40_.hh
        replace hso0_10_25_2 := hso0_10_25_2.up u40_.hh
        replace hso0_10_25_3 := hso0_10_25_3.up u40_.hh
        replace hso1_10_25_1 := hso1_10_25_1.up u40_.hh
        replace hto2_10_25 := hto2_10_25.up u40_.hh u40_ (niA (hto2_10_25.neT hto1_10_25) (niA (hto2_10_25.neT hto0_10_25) List.not_mem_nil))
        replace ho8_25 := ho8_25.up u40_.ll u40_ (niB (ho8_25.ne hto1_10_25.blk (by decide)) (niB (ho8_25.ne hto0_10_25.blk (by decide)) (fun _ _ => by simp)))
        replace hll25_ := hll25_.trans u40_.ll
        replace hhh25_ := hhh25_.trans u40_.hh
        replace hll29_ := hll29_.trans u40_.ll
        replace hhh29_ := hhh29_.trans u40_.hh
        clear hto1_10_25
        clear hto0_10_25
        clear hI40_ u40_ hl40_
        refine ⟨_, rfl, ?_⟩
        refine Ops_step (R_eql rfl rfl) rfl rfl ?_
        refine Ops_nil ?_
        refine then_n (k39 _ _ ?_)
        clear k39 K39
        refine W_if rfl (fun hc41_ => ?_) (fun hc41_ => ?_)
        ·
         replace h := h.1 hc41_
         refine W_exit ?_
         refine then_exit ?_
         clear k38 K38
         refine then_exit ?_
         clear k34 K34
         refine block_other rfl ?_
         refine then_exit ?_
         refine then_exit ?_
         refine block_exit ?_
         refine then_n ?_
         exact ⟨_, rfl, ⟨x8_25, A8_25, c8_25, y40_o2, A40_o2_1, c40_o2_1, A40_o2_2, c40_o2_2, A40_o2_3, c40_o2_3, (sealskinref06_Record.mk 0 (Str.mk [])), _, _, rfl, h, hI, hll23_, hhh23_, ho8_25, ht40_o2, hc40_o2_1, hs40_o2_1, hc40_o2_2, hs40_o2_2, hc40_o2_3, hs40_o2_3, ht22_, hsq8_3_25, trivial⟩, ⟨rfl, rfl, trivial⟩⟩
        ·
         replace h := h.2 hc41_
         refine W_skip ?_
         refine then_n (k38 _ _ ?_)
         clear k38 K38
         refine W_exit ?_
         refine then_exit ?_
         clear k34 K34
         refine block_exit ?_
         refine then_n ?_
         exact ⟨_, rfl, ⟨x8_25, A8_25, c8_25, y40_o2, A40_o2_1, c40_o2_1, A40_o2_2, c40_o2_2, A40_o2_3, c40_o2_3, y40_o0, A40_o0_1, c40_o0_1, yo2_10_25, _, _, rfl, h, hI, hll29_, hhh29_, ho8_25, ht40_o2, hc40_o2_1, hs40_o2_1, hc40_o2_2, hs40_o2_2, hc40_o2_3, hs40_o2_3, ht40_o0, hc40_o0_1, hs40_o0_1, hto2_10_25, ht22_, hsq8_3_25, trivial⟩, ⟨rfl, rfl, rfl, rfl, rfl, rfl, trivial⟩⟩
       ·
        replace h := h.2 hc37_
        refine W_skip ?_
        refine then_n (k34 _ _ ?_)
        clear k34 K34
        refine W_seq_k fun K42 k42 => ?_
        refine W_seq_k fun K43 k43 => ?_
        refine W_region [51, 52, 53, 54] rfl (Ops_step (R_fieldAddr fo31_0 rfl) rfl rfl ?_)
        refine Ops_step (R_loadB (v := vi x31_.Op_) ag3 rfl ht32_.blk rfl) rfl rfl ?_
        refine Ops_step (R_and rfl rfl (andI_wrap _ _)) rfl rfl (Ops_step (R_gtr rfl rfl) rfl rfl ?_)
        refine Ops_nil ?_
        refine then_n (k43 _ _ ?_)
        clear k43 K43
        refine W_if rfl (fun hc44_ => ?_) (fun hc44_ => ?_)
        ·
         replace h := h.1 hc44_
         refine W_exit ?_
         refine then_exit ?_
         clear k42 K42
         refine block_exit ?_
         refine then_n ?_
         exact ⟨_, rfl, ⟨x8_25, A8_25, c8_25, yo0_10_25, Ao0_10_25_1, co0_10_25_1, Ao0_10_25_2, co0_10_25_2, Ao0_10_25_3, co0_10_25_3, yo1_10_25, Ao1_10_25_1, co1_10_25_1, yo2_10_25, _, _, rfl, h, hI, hll29_, hhh29_, ho8_25, hto0_10_25, hco0_10_25_1, hso0_10_25_1, hco0_10_25_2, hso0_10_25_2, hco0_10_25_3, hso0_10_25_3, hto1_10_25, hco1_10_25_1, hso1_10_25_1, hto2_10_25, ht22_, hsq8_3_25, trivial⟩, ⟨rfl, rfl, rfl, rfl, rfl, rfl, trivial⟩⟩
        ·
         replace h := h.2 hc44_
         refine W_skip ?_
         refine then_n (k42 _ _ ?_)
         clear k42 K42
         refine W_seq_k fun K45 k45 => ?_
         refine W_region [55, 56, 57, 58, 59, 60, 12, none] rfl (Ops_step (R_fieldAddr fo31_1 rfl) rfl rfl ?_)
         refine Ops_step (R_loadB (v := vi x31_.Label_) ag3 rfl ht32_.blk rfl) rfl rfl ?_
         refine Ops_step (R_fieldAddr fo31_3 rfl) rfl rfl ?_
         refine Ops_step (R_loadB (v := .slice A31_1 x31_.B_.length c31_1) ag29 rfl ht32_.blk rfl) rfl rfl ?_
         refine Ops_step (X_bytesStr (bs := x31_.B_) Try.underlying29 Try.underlying5 Try.underlying9 rfl rfl (hs31_1.fz.rd hI.st)) rfl rfl ?_
         refine Ops_step (R_build (pl := [(0, 1), (1, 1)]) (cs := [vi x31_.Label_, vs (Str.mk x31_.B_)]) zr39 pl39 rfl rfl rfl) rfl rfl ?_
         have hlo46_b22_ := ht22_.blk.lt
         have hlp46_ho8_25 := ho8_25.lt
         have hI0_ := hI
         refine Ops_to (R_alloc zr39) rfl rfl ?_
         rintro _ w46_ ⟨b46_, rfl, hb46_, hB46_, hF46_⟩
         replace hI := hI.fr0 hF46_
         replace ht22_ := ht22_.fr0 hF46_
         replace hto0_10_25 := hto0_10_25.fr0 hF46_
         replace hto1_10_25 := hto1_10_25.fr0 hF46_
         replace hto2_10_25 := hto2_10_25.fr0 hF46_
         replace ho8_25 := ho8_25.fr0 hF46_
         replace ht32_ := ht32_.fr0 hF46_
         have ht46_ : Tok H25_ _ b46_ 39 ([vi 0, vs (Str.mk [])]) := ⟨hB46_.to rfl, Out.ge hI0_.st (Nat.le_of_eq hb46_.symm)⟩
         have hge_b46_ : w.heap.size ≤ b46_ := hb46_ ▸ hI0_.size
         have hne46_b22_ : b22_ ≠ b46_ := fun e_ => absurd hlo46_b22_ (by omega)
         have hsq46_ho8_25 : ∀ i_ ∈ bk A8_25 c8_25, i_ ∉ [b46_] := fun i_ hi_ hm_ => by have h_ := hlp46_ho8_25 i_ hi_; rw [List.mem_singleton] at hm_; omega
         clear hB46_ hb46_ hI0_ hF46_
         refine Ops_to0 (R_storeN sz39 rfl rfl rfl ht46_.blk (Nat.le_of_ble_eq_true rfl) rfl) rfl ?_
         rintro _ w47_ ⟨hB47_, hF47_⟩
         replace hI := hI.tok hF47_ (out1 ht46_.out) (new1 hge_b46_)
         replace ht22_ := ht22_.fr hF47_ (ne1 hne46_b22_)
         replace hto0_10_25 := hto0_10_25.fr hF47_ (hto0_10_25.apart ht46_ (by decide))
         replace hto1_10_25 := hto1_10_25.fr hF47_ (hto1_10_25.apart ht46_ (by decide))
         replace hto2_10_25 := hto2_10_25.fr hF47_ (hto2_10_25.neT ht46_)
         replace ho8_25 := ho8_25.fr hF47_ hsq46_ho8_25
         replace ht32_ := ht32_.fr hF47_ (ht32_.apart ht46_ (by decide))
         replace ht46_ : Tok H25_ _ b46_ 39 ([vi x31_.Label_, vs (Str.mk x31_.B_)]) := ⟨hB47_, ht46_.out⟩
         clear hF47_ hB47_
         refine Ops_nil ?_
         refine then_n (k45 _ _ ?_)
         clear k45 K45
         refine W_keepB [5, 6, 8, 9, 11, 12, 38, 39, 40] fun B_ b_ => ?_
         simp only [e_, Nat.reduceAdd, Nat.reduceBEq] at b_
         subst b_
         refine W_seq_k fun K49 k49 => ?_
         refine W_region [61, 62, 63, 64, 65, 66, 13] rfl (Ops_step (R_move rfl) rfl rfl (Ops_step (R_fieldAddr fo31_1 rfl) rfl rfl ?_))
         refine Ops_step (R_loadB (v := vi x31_.Label_) ag3 rfl ht32_.blk rfl) rfl rfl ?_
         refine Ops_step (R_fieldAddr fo31_3 rfl) rfl rfl ?_
         refine Ops_step (R_loadB (v := .slice A31_1 x31_.B_.length c31_1) ag29 rfl ht32_.blk rfl) rfl rfl ?_
         refine Ops_call (C_func bd15 rfl) rfl rfl ?_
         refine (journal_Journal_Put_ok (x1 := x31_.Label_) (x2 := x31_.B_) (z0 := yo1_10_25) (z1 := yo2_10_25) (z2 := yo0_10_25) hI.st (hg.up hI.le) hto2_10_25 hto0_10_25 hco0_10_25_1 hso0_10_25_1 hco0_10_25_2 hso0_10_25_2 hco0_10_25_3 hso0_10_25_3 hto1_10_25 hco1_10_25_1 hso1_10_25_1 hc31_1 hs31_1 h).mono ?_
         rintro _ w50_ ⟨r50_0, y50_o0, A50_o0_1, c50_o0_1, y50_o1, y50_o2, A50_o2_1, c50_o2_1, A50_o2_2, c50_o2_2, A50_o2_3, c50_o2_3, L50_, H50_, rfl, hI50_, ht50_o0, hc50_o0_1, hs50_o0_1, ht50_o1, ht50_o2, hc50_o2_1, hs50_o2_1, hc50_o2_2, hs50_o2_2, hc50_o2_3, hs50_o2_3, h⟩
         refine Exists.elim (hI.call hI50_ (memG hge_o1_10 (memG hge_o2_10 (memG hge_o0_10 memN)))) fun L500_ h50_ => ?_
         have hz50_ := hI.size
         replace hI := h50_.1
         have u50_ := h50_.2.1
         have hl50_ := h50_.2.2
         clear h50_
         replace hs0 := hs0.up u50_.hh
         replace hll23_ := hll23_.trans u50_.ll
         replace hhh23_ := hhh23_.trans u50_.hh
         replace ht22_ := ht22_.up u50_ (niA (ht22_.apart hto1_10_25 (by decide)) (niA (ht22_.neM hto2_10_25) (niA (ht22_.apart hto0_10_25 (by decide)) List.not_mem_nil)))
         replace hso0_10_25_1 := hso0_10_25_1.up u50_.hh
         replace hso0_10_25_2 := hso0_10_25_2.up u50_.hh
         replace hso0_10_25_3 := hso0_10_25_3.up u50_.hh
         replace hso1_10_25_1 := hso1_10_25_1.up u50_.hh
         replace ho8_25 := ho8_25.up u50_.ll u50_ (niB (ho8_25.ne hto1_10_25.blk (by decide)) (niB (ho8_25.neM hto2_10_25) (niB (ho8_25.ne hto0_10_25.blk (by decide)) (fun _ _ => by simp))))
         replace hll25_ := hll25_.trans u50_.ll
         replace hhh25_ := hhh25_.trans u50_.hh
         replace hll29_ := hll29_.trans u50_.ll
         replace hhh29_ := hhh29_.trans u50_.hh
         replace ht46_ := ht46_.up u50_ (niA (ht46_.apart hto1_10_25 (by decide)) (niA (ht46_.neM hto2_10_25) (niA (ht46_.apart hto0_10_25 (by decide)) List.not_mem_nil)))
         clear hto1_10_25
         clear hto2_10_25
         clear hto0_10_25
         clear hI50_ u50_ hl50_
         refine ⟨_, rfl, ?_⟩
         refine Ops_step (R_assign rfl) rfl rfl ?_
         refine Ops_nil ?_
         refine then_n (k49 _ _ ?_)
         clear k49 K49
         refine W_keepB [5, 6, 8, 9, 12, 13, 38, 39, 40] fun B_ b_ => ?_
         simp only [e_, Nat.reduceAdd, Nat.reduceBEq] at b_
         subst b_
         refine W_seq_k fun K52 k52 => ?_
         refine W_seq_k fun K53 k53 => ?_
         refine W_region [67, 68] rfl (Ops_step (R_move rfl) rfl rfl (Ops_step (R_eql rfl rfl) rfl rfl ?_))
         refine Ops_nil ?_
         refine then_n (k53 _ _ ?_)
         clear k53 K53
         refine W_if rfl (fun hc54_ => ?_) (fun hc54_ => ?_)
         ·
          replace h := h.1 hc54_
          refine W_seq_k fun K55 k55 => ?_
          refine W_region [69, none] rfl (Ops_step (R_loadN ag39 sz39 rfl ht46_.blk (Nat.le_of_ble_eq_true rfl)) rfl rfl ?_)
          refine Ops_to0 (R_storeN sz39 rfl rfl rfl ht22_.blk (Nat.le_of_ble_eq_true rfl) rfl) rfl ?_
          rintro _ w56_ ⟨hB56_, hF56_⟩
          replace hI := hI.tok hF56_ (out1 ht22_.out) (new1 hge_b22_)
          replace ho8_25 := ho8_25.fr hF56_ hsq8_3_25
          replace ht50_o2 := ht50_o2.fr hF56_ (ht50_o2.apart ht22_ (by decide))
          replace ht22_ : Tok H50_ _ b22_ 39 ([vi x31_.Label_, vs (Str.mk x31_.B_)]) := ⟨hB56_, ht22_.out⟩
          clear hF56_ hB56_
          refine Ops_nil ?_
          refine then_n (k55 _ _ ?_)
          clear k55 K55
          refine W_keepB [5, 8, 9] fun B_ b_ => ?_
          simp only [e_, Nat.reduceAdd, Nat.reduceBEq] at b_
          subst b_
          refine W_exit ?_
          refine then_exit ?_
          clear k52 K52
          refine block_other rfl ?_
          refine then_exit ?_
          refine then_exit ?_
          refine block_exit ?_
          refine then_n ?_
          exact ⟨_, rfl, ⟨x8_25, A8_25, c8_25, y50_o2, A50_o2_1, c50_o2_1, A50_o2_2, c50_o2_2, A50_o2_3, c50_o2_3, (sealskinref06_Record.mk x31_.Label_ (Str.mk x31_.B_)), _, _, rfl, h, hI, hll23_, hhh23_, ho8_25, ht50_o2, hc50_o2_1, hs50_o2_1, hc50_o2_2, hs50_o2_2, hc50_o2_3, hs50_o2_3, ht22_, hsq8_3_25, trivial⟩, ⟨rfl, rfl, trivial⟩⟩
         ·
          replace h := h.2 hc54_
          refine W_skip ?_
          refine then_n (k52 _ _ ?_)
          clear k52 K52
          refine W_seq_k fun K58 k58 => ?_
          refine W_region [70, 71] rfl (Ops_step (R_move rfl) rfl rfl (Ops_step (R_eql rfl rfl) rfl rfl ?_))
          refine Ops_nil ?_
          refine then_n (k58 _ _ ?_)
          clear k58 K58
          refine W_if rfl (fun hc59_ => ?_) (fun hc59_ => ?_)
          ·
           replace h := h.1 hc59_
           refine W_region [72, 73, 74, 75, 8] rfl (Ops_step (R_move rfl) rfl rfl (Ops_step (R_loadN ag39 sz39 rfl ht46_.blk (Nat.le_of_ble_eq_true rfl)) rfl rfl ?_))
           have hlo60_ho8_25 := ho8_25.lt
           have hlo60_b22_ := ht22_.blk.lt
           refine Ops_to (R_buildSlice el36 zr39 (by decide) (by decide) rfl rfl) rfl rfl ?_
           rintro _ w60_ ⟨b60_, rfl, hb60_, hB60_, hF60_⟩
           have ho60_ : OwnS w.heap.size 39 L500_ H50_ _ (some ⟨b60_, 0, none⟩) 1 ([(sealskinref06_Record.mk x31_.Label_ (Str.mk x31_.B_))] : List sealskinref06_Record) := OwnS.ofBlk (css := [[vi x31_.Label_, vs (Str.mk x31_.B_)]]) hI.st hb60_ hB60_ (.cons rfl .nil) rfl (by have := hI.size; omega) (by show 1 ≤ maxLen; decide)
           replace hI := hI.fr0 hF60_
           replace ht22_ := ht22_.fr0 hF60_
           replace ho8_25 := ho8_25.fr0 hF60_
           replace ht50_o0 := ht50_o0.fr0 hF60_
           replace ht50_o1 := ht50_o1.fr0 hF60_
           replace ht50_o2 := ht50_o2.fr0 hF60_
           clear hF60_ hB60_
           have hsp60_ho8_25 : ∀ i ∈ bk (some ⟨b60_, 0, none⟩) 1, i ∉ bk A8_25 c8_25 := sep_new (fun i_ hi_ => by have := (bk_of hi_).1; simp only [blkOf, List.mem_singleton] at this; omega) hlo60_ho8_25
           have hsq60_b22_ : ∀ i_ ∈ bk (some ⟨b60_, 0, none⟩) 1, i_ ∉ [b22_] := fun i_ hi_ hm_ => by have h_ := (fun i_ hi_ => by have := (bk_of hi_).1; simp only [blkOf, List.mem_singleton] at this; omega) i_ hi_; rw [List.mem_singleton] at hm_; omega
           have hk62_ := h.1
           replace h := h.2
           have hlo61_b22_ := ht22_.blk.lt
           refine Ops_to (X_append (α := sealskinref06_Record) (xs := x8_25) (ys := ([(sealskinref06_Record.mk x31_.Label_ (Str.mk x31_.B_))] : List sealskinref06_Record)) el36 rfl rfl ho8_25 (Srcs.ofOwn Try.underlying36 ho60_ (by decide)) hI.st hk62_ (by decide) hI.size) rfl rfl ?_
           rintro _ w61_ ⟨A61_, c61_, rfl, ho61_, hF61_, hbk61_⟩
           have hsq61_b22_ : ∀ i_ ∈ bk A61_ c61_, i_ ∉ [b22_] := sep_app (An := some ⟨b22_, 0, none⟩) (cn := 1) hbk61_ hsq8_3_25 (fun i_ hi_ => by rw [show bk (some ⟨b22_, 0, none⟩) 1 = [b22_] from rfl, List.mem_singleton] at hi_; omega)
           clear hbk61_
           replace hI := hI.tok hF61_ ho8_25.out (ho8_25.new (Nat.le_refl _))
           replace ht22_ := ht22_.fr hF61_ (sep_tok hsq8_3_25)
           replace ht50_o0 := ht50_o0.fr hF61_ (ht50_o0.sep ho8_25 (by decide))
           replace ht50_o1 := ht50_o1.fr hF61_ (ht50_o1.neO ho8_25)
           replace ht50_o2 := ht50_o2.fr hF61_ (ht50_o2.sep ho8_25 (by decide))
           clear hF61_ ho8_25
           refine Ops_step (R_assign rfl) rfl rfl ?_
           refine Ops_nil ?_
           refine block_n ?_
           refine then_n ?_
           exact ⟨_, rfl, ⟨(x8_25 ++ ([(sealskinref06_Record.mk x31_.Label_ (Str.mk x31_.B_))] : List sealskinref06_Record)), A61_, c61_, y50_o2, A50_o2_1, c50_o2_1, A50_o2_2, c50_o2_2, A50_o2_3, c50_o2_3, y50_o0, A50_o0_1, c50_o0_1, y50_o1, _, _, rfl, h, hI, hll29_, hhh29_, ho61_, ht50_o2, hc50_o2_1, hs50_o2_1, hc50_o2_2, hs50_o2_2, hc50_o2_3, hs50_o2_3, ht50_o0, hc50_o0_1, hs50_o0_1, ht50_o1, ht22_, hsq61_b22_, trivial⟩, ⟨rfl, rfl, rfl, rfl, rfl, rfl, trivial⟩⟩
          ·
           replace h := h.2 hc59_
           refine W_skip ?_
           refine block_n ?_
           refine then_n ?_
           exact ⟨_, rfl, ⟨x8_25, A8_25, c8_25, y50_o2, A50_o2_1, c50_o2_1, A50_o2_2, c50_o2_2, A50_o2_3, c50_o2_3, y50_o0, A50_o0_1, c50_o0_1, y50_o1, _, _, rfl, h, hI, hll29_, hhh29_, ho8_25, ht50_o2, hc50_o2_1, hs50_o2_1, hc50_o2_2, hs50_o2_2, hc50_o2_3, hs50_o2_3, ht50_o0, hc50_o0_1, hs50_o0_1, ht50_o1, ht22_, hsq8_3_25, trivial⟩, ⟨rfl, rfl, rfl, rfl, rfl, rfl, trivial⟩⟩
      ·
       simp only [e_, Nat.reduceAdd, Nat.reduceBEq] at b_
       subst b_
       clear h
       clear ht22_
       rintro _ w29_ ⟨x8_29, A8_29, c8_29, yo0_10_29, Ao0_10_29_1, co0_10_29_1, Ao0_10_29_2, co0_10_29_2, Ao0_10_29_3, co0_10_29_3, yo1_10_29, Ao1_10_29_1, co1_10_29_1, yo2_10_29, L29_, H29_, rfl, hJ29_, hI29_, hll29_, hhh29_, ho8_29, hto0_10_29, hco0_10_29_1, hso0_10_29_1, hco0_10_29_2, hso0_10_29_2, hco0_10_29_3, hso0_10_29_3, hto1_10_29, hco1_10_29_1, hso1_10_29_1, hto2_10_29, ht22_, hsq8_3_29, -⟩
       replace hI := hI29_
       clear hI29_
       have h := hr29_ x8_29 yo0_10_29 yo1_10_29 yo2_10_29 hJ29_
       clear hr29_ hJ29_
       replace hs0 := hs0.up hhh29_
       replace hll23_ := hll23_.trans hll29_
       replace hhh23_ := hhh23_.trans hhh29_
       replace hll25_ := hll25_.trans hll29_
       replace hhh25_ := hhh25_.trans hhh29_
       refine W_region [76, 40] rfl ?_
       have hk63_ := h.1
       replace h := h.2
       refine Ops_step (R_add rfl rfl (wI hk63_.1 hk63_.2)) rfl rfl (Ops_step (R_move rfl) rfl rfl ?_)
       refine Ops_nil ?_
       refine then_n ?_
       exact h.elim fun m_ h => ⟨m_, _, h.1, rfl, ⟨x8_29, A8_29, c8_29, (x40_25 + 1), yo0_10_29, Ao0_10_29_1, co0_10_29_1, Ao0_10_29_2, co0_10_29_2, Ao0_10_29_3, co0_10_29_3, yo1_10_29, Ao1_10_29_1, co1_10_29_1, yo2_10_29, _, _, rfl, h.2, hI, hll25_, hhh25_, ho8_29, hto0_10_29, hco0_10_29_1, hso0_10_29_1, hco0_10_29_2, hso0_10_29_2, hco0_10_29_3, hso0_10_29_3, hto1_10_29, hco1_10_29_1, hso1_10_29_1, hto2_10_29, ht22_, hsq8_3_29, trivial⟩, ⟨rfl, rfl, rfl, rfl, rfl, trivial⟩⟩
     ·
      replace h := h.2 hc28_
      refine W_exit ?_
      refine then_exit ?_
      clear k27 K27
      refine then_exit ?_
      refine block_exit ?_
      refine then_n ?_
      exact ⟨_, rfl, ⟨x8_25, A8_25, c8_25, yo0_10_25, Ao0_10_25_1, co0_10_25_1, Ao0_10_25_2, co0_10_25_2, Ao0_10_25_3, co0_10_25_3, (sealskinref06_Record.mk 0 (Str.mk [])), _, _, rfl, h, hI, hll23_, hhh23_, ho8_25, hto0_10_25, hco0_10_25_1, hso0_10_25_1, hco0_10_25_2, hso0_10_25_2, hco0_10_25_3, hso0_10_25_3, ht22_, hsq8_3_25, trivial⟩, ⟨rfl, rfl, trivial⟩⟩
    ·
     simp only [e_, Nat.reduceAdd, Nat.reduceBEq] at b_
     subst b_
     clear h
     rintro _ w23_ ⟨x8_23, A8_23, c8_23, yo0_10_23, Ao0_10_23_1, co0_10_23_1, Ao0_10_23_2, co0_10_23_2, Ao0_10_23_3, co0_10_23_3, yb22__23, L23_, H23_, rfl, hJ23_, hI23_, hll23_, hhh23_, ho8_23, hto0_10_23, hco0_10_23_1, hso0_10_23_1, hco0_10_23_2, hso0_10_23_2, hco0_10_23_3, hso0_10_23_3, htb22__23, hsq8_1_23, -⟩
     replace hI := hI23_
     clear hI23_
     have h := hr23_ x8_23 yo0_10_23 yb22__23 hJ23_
     clear hr23_ hJ23_
     refine W_seq_k fun K64 k64 => ?_
     refine W_region [77, 78] rfl (Ops_step (R_move rfl) rfl rfl ?_)
     refine Ops_call (C_func bd22 rfl) rfl rfl ?_
     refine (disk_Disk_Start_ok (z0 := yo0_10_23) hI.st (hg.up hI.le) hto0_10_23 hco0_10_23_1 hso0_10_23_1 hco0_10_23_2 hso0_10_23_2 hco0_10_23_3 hso0_10_23_3 h).mono ?_
     rintro _ w65_ ⟨r65_0, y65_o0, A65_o0_1, c65_o0_1, A65_o0_2, c65_o0_2, A65_o0_3, c65_o0_3, L65_, H65_, rfl, hI65_, ht65_o0, hc65_o0_1, hs65_o0_1, hc65_o0_2, hs65_o0_2, hc65_o0_3, hs65_o0_3, h⟩
     refine Exists.elim (hI.call hI65_ (new1 hge_o0_10)) fun L650_ h65_ => ?_
     have hz65_ := hI.size
     replace hI := h65_.1
     have u65_ := h65_.2.1
     have hl65_ := h65_.2.2
     clear h65_
     replace hso0_10_23_1 := hso0_10_23_1.up u65_.hh
     replace hso0_10_23_2 := hso0_10_23_2.up u65_.hh
     replace hso0_10_23_3 := hso0_10_23_3.up u65_.hh
     replace htb22__23 := htb22__23.up u65_ (htb22__23.apart hto0_10_23 (by decide))
     replace ho8_23 := ho8_23.up u65_.ll u65_ (ho8_23.ne hto0_10_23.blk (by decide))
     clear hto0_10_23
     clear hI65_ u65_ hl65_
     refine ⟨_, rfl, ?_⟩
     refine Ops_nil ?_
     refine then_n (k64 _ _ ?_)
     clear k64 K64
     refine W_seq_k fun K66 k66 => ?_
     refine W_region [80, 81, 79, 82, 83, 14, 15] rfl (Ops_step (R_move rfl) rfl rfl ?_)
     refine Ops_call (C_func bd20 rfl) rfl rfl ?_
     refine (journal_Open_ok (z0 := y65_o0) hI.st (hg.up hI.le) ht65_o0 hc65_o0_1 hs65_o0_1 hc65_o0_2 hs65_o0_2 hc65_o0_3 hs65_o0_3 h).mono ?_
     rintro _ w67_ (⟨r67a_1, y67a_o0, A67a_o0_1, c67a_o0_1, A67a_o0_2, c67a_o0_2, A67a_o0_3, c67a_o0_3, L67a_, H67a_, rfl, hI67a_, ht67a_o0, hc67a_o0_1, hs67a_o0_1, hc67a_o0_2, hs67a_o0_2, hc67a_o0_3, hs67a_o0_3, h⟩ | ⟨r67b_1, y67b_o0, A67b_o0_1, c67b_o0_1, A67b_o0_2, c67b_o0_2, A67b_o0_3, c67b_o0_3, o1_67b, y67b_o1, A67b_o1_1, c67b_o1_1, o2_67b, y67b_o2, L67b_, H67b_, rfl, hI67b_, ht67b_o0, hc67b_o0_1, hs67b_o0_1, hc67b_o0_2, hs67b_o0_2, hc67b_o0_3, hs67b_o0_3, hge_o1_67b, ht67b_o1, hc67b_o1_1, hs67b_o1_1, hge_o2_67b, ht67b_o2, h⟩)
     ·
      exact h.elim
     ·
      have hge0_o1_67b := hge_o1_67b
      replace hge_o1_67b := Nat.le_trans hI.size hge_o1_67b
      have hge0_o2_67b := hge_o2_67b
      replace hge_o2_67b := Nat.le_trans hI.size hge_o2_67b
      refine Exists.elim (hI.call hI67b_ (new1 hge_o0_10)) fun L67b0_ h67b_ => ?_
      have hz67b_ := hI.size
      replace hI := h67b_.1
      have u67b_ := h67b_.2.1
      have hl67b_ := h67b_.2.2
      clear h67b_
      replace htb22__23 := htb22__23.up u67b_ (htb22__23.apart ht65_o0 (by decide))
      replace ho8_23 := ho8_23.up u67b_.ll u67b_ (ho8_23.ne ht65_o0.blk (by decide))
      replace hs65_o0_1 := hs65_o0_1.up u67b_.hh
      replace hs65_o0_2 := hs65_o0_2.up u67b_.hh
      replace hs65_o0_3 := hs65_o0_3.up u67b_.hh
      clear ht65_o0
      clear hI67b_ u67b_ hl67b_
      refine ⟨_, rfl, ?_⟩
      refine Ops_step (R_move rfl) rfl rfl ?_
      refine Ops_step (R_extract (v := .pointer (some ⟨o1_67b, 0, none⟩)) rfl rfl) rfl rfl ?_
      refine Ops_step (R_extract (v := vi r67b_1) rfl rfl) rfl rfl ?_
      refine Ops_step (R_assign rfl) rfl rfl (Ops_step (R_assign rfl) rfl rfl ?_)
      refine Ops_nil ?_
      refine then_n (k66 _ _ ?_)
      clear k66 K66
      refine W_keepB [8, 9, 14, 15] fun B_ b_ => ?_
      simp only [e_, Nat.reduceAdd, Nat.reduceBEq] at b_
      subst b_
      refine W_seq_k fun K69 k69 => ?_
      refine W_seq_k fun K70 k70 => ?_
      refine W_region [84, 85] rfl (Ops_step (R_move rfl) rfl rfl (Ops_step (R_neq rfl rfl) rfl rfl ?_))
      refine Ops_nil ?_
      refine then_n (k70 _ _ ?_)
      clear k70 K70
      refine W_if rfl (fun hc71_ => ?_) (fun hc71_ => ?_)
      ·
       replace h := h.1 hc71_
       refine W_seq_k fun K72 k72 => ?_
       refine W_region [4] rfl (Ops_step (R_assign rfl) rfl rfl ?_)
       refine Ops_nil ?_
       refine then_n (k72 _ _ ?_)
       clear k72 K72
       refine W_keepB [4] fun B_ b_ => ?_
       simp only [e_, Nat.reduceAdd, Nat.reduceBEq] at b_
       subst b_
       refine W_ret ?_
       refine then_ret ?_
       clear k69 K69
       refine ⟨_, ⟨_, _, rfl, rfl, rfl⟩, ?_⟩
       exact ⟨false, _, _, rfl, hI, h⟩
      ·
       replace h := h.2 hc71_
       refine W_skip ?_
       refine then_n (k69 _ _ ?_)
       clear k69 K69
       refine W_seq_k fun K74 k74 => ?_
       refine W_region [86, 87, 16] rfl (Ops_step (R_move rfl) rfl rfl ?_)
       refine Ops_call (C_func bd16 rfl) rfl rfl ?_
       refine (sealskinlaw06_records_ok (z0 := y67b_o1) (z1 := y67b_o2) (z2 := y67b_o0) hI.st (hg.up hI.le) ht67b_o2 ht67b_o0 hc67b_o0_1 hs67b_o0_1 hc67b_o0_2 hs67b_o0_2 hc67b_o0_3 hs67b_o0_3 ht67b_o1 hc67b_o1_1 hs67b_o1_1 h).mono ?_
       have hlo75_0_ho8_23 := ho8_23.lt
       have hlo75_0_b22_ := htb22__23.blk.lt
       rintro _ w75_ ⟨A75_0, c75_0, r75_0, L75_, H75_, rfl, hI75_, ho75_0, h⟩
       refine Exists.elim (hI.call hI75_ (by simp)) fun L750_ h75_ => ?_
       have hz75_ := hI.size
       replace hI := h75_.1
       have u75_ := h75_.2.1
       have hl75_ := h75_.2.2
       clear h75_
       replace htb22__23 := htb22__23.up u75_ (by simp)
       replace ho8_23 := ho8_23.up u75_.ll u75_ (by simp)
       replace ht67b_o0 := ht67b_o0.up u75_ (by simp)
       replace hs67b_o0_1 := hs67b_o0_1.up u75_.hh
       replace hs67b_o0_2 := hs67b_o0_2.up u75_.hh
       replace hs67b_o0_3 := hs67b_o0_3.up u75_.hh
       replace ht67b_o1 := ht67b_o1.up u75_ (by simp)
       replace hs67b_o1_1 := hs67b_o1_1.up u75_.hh
       replace ht67b_o2 := ht67b_o2.up u75_.hh u75_ (by simp)
       have hsp75_0_ho8_23 : ∀ i ∈ bk A75_0 c75_0, i ∉ bk A8_23 c8_23 := sep_new ho75_0.off hlo75_0_ho8_23
       have hsq75_0_b22_ : ∀ i_ ∈ bk A75_0 c75_0, i_ ∉ [b22_] := fun i_ hi_ hm_ => by have h_ := ho75_0.off i_ hi_; rw [List.mem_singleton] at hm_; omega
       replace ho75_0 := OwnS.back ho75_0 hz75_ hl75_ (Le.refl _)
       clear hI75_ u75_ hl75_
       refine ⟨_, rfl, ?_⟩
       refine Exists.elim (ho75_0.freeze hI) fun L76_ h76_ => Exists.elim h76_ fun H76_ h76_ => ?_
       replace hI := h76_.1
       have u76_ := h76_.2.1
       have hs76_ := h76_.2.2.1 (Le.refl _)
       have hc76_ := ho75_0.cap
       replace htb22__23 := htb22__23.up u76_ (sep_tok hsq75_0_b22_)
       replace ho8_23 := ho8_23.up u76_.ll u76_ (sep_sym hsp75_0_ho8_23)
       clear h76_ u76_ ho75_0
       refine Ops_step (R_assign rfl) rfl rfl ?_
       refine Ops_nil ?_
       refine then_n (k74 _ _ ?_)
       clear k74 K74
       refine W_keepB [8, 9, 16] fun B_ b_ => ?_
       simp only [e_, Nat.reduceAdd, Nat.reduceBEq] at b_
       subst b_
       refine ex_ h fun J78_ hr78_ h => ?_
       refine W_seq_join [8] [16] (fun vals_ w2 => ∃ (x16_78 : List sealskinref06_Record) (A16_78 : Option Addr) (c16_78 : Nat) (L H : Gh), vals_ = [.slice A16_78 x16_78.length c16_78] ∧ J78_ x16_78 ∧ Inv [] G w L H w2 ∧ Le L76_ L ∧ Le H76_ H ∧ x16_78.length ≤ c16_78 ∧ Sl H A16_78 x16_78 ∧ OwnS w.heap.size 39 L H w2 A8_23 c8_23 x8_23 ∧ True) (fun B_ b_ => ?_) (fun B_ b_ => ?_)
       ·
        simp only [e_, Nat.reduceAdd, Nat.reduceBEq] at b_
        subst b_
        clear hr78_
        have hll78_ := Le.refl L76_
        have hhh78_ := Le.refl H76_
        refine ex_ h fun J79_ hr79_ h => ?_
        refine W_seq_join [8, 16] [102] (fun vals_ w2 => ∃ (x102_79 : Bool) (L H : Gh), vals_ = [.bool x102_79] ∧ J79_ x102_79 ∧ Inv [] G w L H w2 ∧ Le L76_ L ∧ Le H76_ H ∧ OwnS w.heap.size 39 L H w2 A8_23 c8_23 x8_23 ∧ True) (fun B_ b_ => ?_) (fun B_ b_ => ?_)
        ·
         simp only [e_, Nat.reduceAdd, Nat.reduceBEq] at b_
         subst b_
         clear hr79_
         have hll79_ := Le.refl L76_
         have hhh79_ := Le.refl H76_
         refine W_drawF [88, 89, 90, 91, 92, 93, 94, 95, 96, 97, 98, 99, 100, 101, 102] [(0, true), (1, true), (2, true), (3, true), (4, true), (5, true), (6, true), (7, true), (8, true), (9, true), (10, true), (11, true), (12, true), (13, true), (14, true)] TJmKept.hm rfl (by kernel_rfl) fun ops80_ w80_ hops80_ hF80_ => ?_
         replace hI := hI.fr0 hF80_
         replace htb22__23 := htb22__23.fr0 hF80_
         replace ho8_23 := ho8_23.fr0 hF80_
         clear hF80_
         refine HSp (R_move rfl) rfl rfl (HSp (R_len Try.underlying36 rfl rfl) rfl rfl (HSp (R_move rfl) rfl rfl (HSp (R_len Try.underlying36 rfl rfl) rfl rfl ?_)))
         have hk81_ := h.1
         replace h := h.2
         refine HSp (R_add rfl rfl (wI hk81_.1 hk81_.2)) rfl rfl (HSp (R_eql rfl rfl) rfl rfl (HSp (R_move rfl) rfl rfl ?_))
         refine HS_split 94 rfl (fun hg82_ => ?_) (fun hg82_ => ?_)
         ·
          replace h := h.1 hg82_
          refine HSp (R_move rfl) rfl rfl (HSp (R_move rfl) rfl rfl (HSp (R_len Try.underlying36 rfl rfl) rfl rfl ?_))
          refine ex_ h fun x83_ hx83_ h => ?_
          have ha83_ := (Sl.atN (n := 2) rfl (by decide) (hs76_.up hI.sub) hx83_).1
          refine Exists.elim (Sl.atN (n := 2) rfl (by decide) (hs76_.up hI.sub) hx83_).2 fun l83_ hA83_ => ?_
          have hr83_ := hA83_.1
          have hg83_ := hA83_.2
          clear hA83_
          refine HSp (R_indexSl Try.underlying36 sz39 rfl rfl hx83_.1 hx83_.lt ha83_) rfl rfl ?_
          replace hr83_ : l83_ = [vi x83_.Label_, vs x83_.Data_] := hr83_
          subst hr83_
          refine HS_loadCs (cs := [vi x83_.Label_, vs x83_.Data_]) ag39 sz39 rfl (fun j_ v_ hv_ => hI.st _ _ (hg83_ j_ v_ hv_)) rfl rfl ?_
          refine HS_loadN ag39 sz39 rfl htb22__23.blk (Nat.le_of_ble_eq_true rfl) rfl rfl ?_
          refine HSp (R_structEq fd39 rfl rfl (eqF_int Try.underlying3 ag3 rfl rfl (eqF_str (a := x83_.Data_) (b := yb22__23.Data_) Try.underlying9 ag9 rfl rfl eqF_nil))) rfl rfl ?_
          refine HSp (R_pick_true rfl rfl) rfl rfl ?_
          refine HS_nil ?_
          clear hops80_
          refine then_n ?_
          exact ⟨_, rfl, ⟨(decide (x83_.Label_ = yb22__23.Label_ ∧ x83_.Data_.b = yb22__23.Data_.b ∧ True)), _, _, rfl, h, hI, hll79_, hhh79_, ho8_23, trivial⟩, ⟨rfl, rfl, trivial⟩⟩
         ·
          replace h := h.2 hg82_
          refine HS_pass rfl rfl ?_
          refine HS_pass rfl rfl ?_
          refine HS_pass rfl rfl ?_
          refine HS_pass rfl rfl ?_
          refine HS_pass rfl rfl ?_
          refine HS_pass rfl rfl ?_
          refine HS_pass rfl rfl ?_
          refine HSp (R_pick_false rfl rfl) rfl rfl ?_
          refine HS_nil ?_
          clear hops80_
          refine then_n ?_
          exact ⟨_, rfl, ⟨false, _, _, rfl, h, hI, hll79_, hhh79_, ho8_23, trivial⟩, ⟨rfl, rfl, trivial⟩⟩
        ·
         simp only [e_, Nat.reduceAdd, Nat.reduceBEq] at b_
         subst b_
         clear h
         clear ho8_23
         rintro _ w79_ ⟨x102_79, L79_, H79_, rfl, hJ79_, hI79_, hll79_, hhh79_, ho8_23, -⟩
         replace hI := hI79_
         clear hI79_
         have h := hr79_ x102_79 hJ79_
         clear hr79_ hJ79_
         replace hs76_ := hs76_.up hll79_
         replace hll78_ := hll78_.trans hll79_
         replace hhh78_ := hhh78_.trans hhh79_
         refine W_cond rfl (fun hc84_ => ?_) (fun hc84_ => ?_)
         ·
          replace h := h.1 hc84_
          refine W_region [103, 104, 105, 106, 16] rfl (Ops_step (R_move rfl) rfl rfl (Ops_step (R_move rfl) rfl rfl (Ops_step (R_len Try.underlying36 rfl rfl) rfl rfl ?_)))
          have hk86_ := h.1
          replace h := h.2
          have hk87_ := h.1
          replace h := h.2
          refine Exists.elim (cut_ex (n := 2) (l := 0) (h := (x8_23.length : Int)) (hs76_.up hI.sub) rfl (by decide) hc76_ (Int.le_refl 0) hk86_ hk87_) fun A85_ h85_ => Exists.elim h85_ fun c85_ h85_ => ?_
          have hr85_ := h85_.1
          have hc85_ := h85_.2.1
          have hs85_ := h85_.2.2
          clear h85_
          refine Ops_step (X_slice (xs := r75_0) Try.underlying36 sz39 rfl hr85_ hc76_ rfl rfl (Int.le_refl 0) hk86_ hk87_) rfl rfl ?_
          clear hr85_
          refine Ops_step (R_assign rfl) rfl rfl ?_
          refine Ops_nil ?_
          refine then_n ?_
          exact ⟨_, rfl, ⟨(cut r75_0 0 (x8_23.length : Int)), A85_, c85_, _, _, rfl, h, hI, hll78_, hhh78_, hc85_, hs85_, ho8_23, trivial⟩, ⟨rfl, trivial⟩⟩
         ·
          replace h := h.2 hc84_
          refine W_skip ?_
          refine then_n ?_
          exact ⟨_, rfl, ⟨r75_0, A75_0, c75_0, _, _, rfl, h, hI, hll78_, hhh78_, hc76_, (hs76_.up hI.sub), ho8_23, trivial⟩, ⟨rfl, trivial⟩⟩
       ·
        simp only [e_, Nat.reduceAdd, Nat.reduceBEq] at b_
        subst b_
        clear h
        clear ho8_23
        rintro _ w78_ ⟨x16_78, A16_78, c16_78, L78_, H78_, rfl, hJ78_, hI78_, hll78_, hhh78_, hc16_78, hs16_78, ho8_23, -⟩
        replace hI := hI78_
        clear hI78_
        have h := hr78_ x16_78 hJ78_
        clear hr78_ hJ78_
        refine W_seq_k fun K88 k88 => ?_
        refine W_region [107, 108, 109, 110, 111, 112, 4] rfl (Ops_step (R_move rfl) rfl rfl (Ops_step (R_move rfl) rfl rfl ?_))
        refine Exists.elim (ho8_23.lend hI.st hI.sub) fun Hb89_0_ hb89_0_ => ?_
        refine Ops_call (C_func bd23 rfl) rfl rfl ?_
        refine (slices_Equal_sealskinref06_Record_sealskinref06_Record_ok (x0 := x16_78) (x1 := x8_23) hb89_0_.1 (hg.up (hI.le.trans hb89_0_.2.1)) hc16_78 (hs16_78.up hb89_0_.2.1) ho8_23.cap hb89_0_.2.2 h).mono ?_
        rintro _ w89_ ⟨r89_0, L89_, H89_, rfl, hI89_, h⟩
        refine Exists.elim (hI.callB hb89_0_.2.1 hI89_ (by simp)) fun L890_ h89_ => Exists.elim h89_ fun H890_ h89_ => ?_
        have hz89_ := hI.size
        replace hI := h89_.1
        have u89_ := h89_.2.1
        have hl89_ := h89_.2.2.1
        have hh89_ := h89_.2.2.2
        clear h89_
        clear hI89_ u89_ hl89_
        refine ⟨_, rfl, ?_⟩
        refine Ops_step (R_move rfl) rfl rfl ?_
        refine Ops_splitB 110 rfl (fun hg90_ => ?_) (fun hg90_ => ?_)
        ·
         replace h := h.1 hg90_
         refine Ops_call (C_func bd12 rfl) rfl rfl ?_
         refine (sealskinlaw06_awake_ok  hI.st (hg.up hI.le)  h).mono ?_
         rintro _ w91_ ⟨r91_0, L91_, H91_, rfl, hI91_, h⟩
         refine Exists.elim (hI.call hI91_ (by simp)) fun L910_ h91_ => ?_
         have hz91_ := hI.size
         replace hI := h91_.1
         have u91_ := h91_.2.1
         have hl91_ := h91_.2.2
         clear h91_
         clear hI91_ u91_ hl91_
         refine ⟨_, rfl, ?_⟩
         refine Ops_step (R_pick_true rfl rfl) rfl rfl (Ops_step (R_assign rfl) rfl rfl ?_)
         refine Ops_nil ?_
         refine then_n (k88 _ _ ?_)
         clear k88 K88
         refine W_keepB [4] fun B_ b_ => ?_
         simp only [e_, Nat.reduceAdd, Nat.reduceBEq] at b_
         subst b_
         refine W_ret ?_
         refine ⟨_, ⟨_, _, rfl, rfl, rfl⟩, ?_⟩
         exact ⟨r91_0, _, _, rfl, hI, h⟩
        ·
         replace h := h.2 hg90_
         refine Ops_pass rfl rfl (Ops_step (R_pick_false rfl rfl) rfl rfl (Ops_step (R_assign rfl) rfl rfl ?_))
         refine Ops_nil ?_
         refine then_n (k88 _ _ ?_)
         clear k88 K88
         refine W_keepB [4] fun B_ b_ => ?_
         simp only [e_, Nat.reduceAdd, Nat.reduceBEq] at b_
         subst b_
         refine W_ret ?_
         refine ⟨_, ⟨_, _, rfl, rfl, rfl⟩, ?_⟩
         exact ⟨false, _, _, rfl, hI, h⟩

end Go.Proofs.Ytkmljjhjojolcaa

