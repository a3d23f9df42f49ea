/- What is shown of the program on the way to the law. -/
import Derived.Test.YtkmljjhjojolcaaZo3
import Derived.Test.YtkmljjhjojolcaaZo4
import Derived.Test.YtkmljjhjojolcaaZo5
import Derived.Test.YtkmljjhjojolcaaZo12
import Derived.Test.YtkmljjhjojolcaaZo13
import Derived.Test.YtkmljjhjojolcaaZo14
import Derived.Test.YtkmljjhjojolcaaProg
set_option linter.unusedVariables false
set_option linter.unusedSimpArgs false
set_option maxHeartbeats 4000000
namespace Go.Proofs.Ytkmljjhjojolcaa
open Go Go.Sx Go.Lx
namespace TJtJ
theorem hm : Try.prog.follows .mixedOrders = true := by kernel_rfl
theorem ag3 : aggB Try.prog 3 = some false := by kernel_rfl
theorem ag36 : aggB Try.prog 36 = some false := by kernel_rfl
theorem bd33 : bodied Try.prog 33 = true := by kernel_rfl
theorem bd44 : bodied Try.prog 44 = true := by kernel_rfl
theorem bd55 : bodied Try.prog 55 = true := by kernel_rfl
theorem bd56 : bodied Try.prog 56 = true := by kernel_rfl
theorem bd57 : bodied Try.prog 57 = true := by kernel_rfl
theorem bd58 : bodied Try.prog 58 = true := by kernel_rfl
theorem bd59 : bodied Try.prog 59 = true := by kernel_rfl
theorem el36 : Elem Try.prog 36 39 2 24 := Elem.of (by kernel_rfl)
theorem fo73_0 : offB Try.prog 73 0 = some 0 := by kernel_rfl
theorem fo73_2 : offB Try.prog 73 2 = some 2 := by kernel_rfl
theorem fo73_3 : offB Try.prog 73 3 = some 3 := by kernel_rfl
theorem pl73 : partPl Try.prog 73 = some [(0, 1), (1, 1), (2, 1), (3, 1)] := by kernel_rfl
theorem sz29 : sz Try.prog 29 = some 1 := by kernel_rfl
theorem sz3 : sz Try.prog 3 = some 1 := by kernel_rfl
theorem sz36 : sz Try.prog 36 = some 1 := by kernel_rfl
theorem zr73 : zr Try.prog 73 = some ([.slice none 0 0] ++ [.pointer none] ++ [.int .i64 0] ++ [.int .i64 0]) := by kernel_rfl
end TJtJ
open TJtJ
theorem sealskinref06_Open_ok {G : Gh} {w : World} (hS : St G w) (hg : GL G) {d0 : Nat} {z0 : sealskinref05_Disk} {Ad0_1 : Option Addr} {cd0_1 : Nat} {Ad0_2 : Option Addr} {cd0_2 : Nat} {Ad0_3 : Option Addr} {cd0_3 : Nat} (htd0 : Tok G w d0 81 ([.slice Ad0_1 z0.F_.e0_.length cd0_1, .slice Ad0_2 z0.F_.e1_.length cd0_2, .slice Ad0_3 z0.F_.e2_.length cd0_3, vi z0.Room_, .bool z0.Off_, vi z0.Fuse_])) (hcd0_1 : z0.F_.e0_.length ≤ cd0_1) (hsd0_1 : Sl G Ad0_1 z0.F_.e0_) (hcd0_2 : z0.F_.e1_.length ≤ cd0_2) (hsd0_2 : Sl G Ad0_2 z0.F_.e1_) (hcd0_3 : z0.F_.e2_.length ≤ cd0_3) (hsd0_3 : Sl G Ad0_3 z0.F_.e2_) {Q0 : Int → sealskinref05_Disk → Prop} {Q1 : Int → sealskinref05_Disk → sealskinref06_Journal → Prop} (h : sealskinref06_Open z0 Q0 Q1) : Calls Try.prog 28 #[.pointer (some ⟨d0, 0, none⟩)] w fun e w2 => (∃ (r1 : Int) (y0 : sealskinref05_Disk) (Ay0_1 : Option Addr) (cy0_1 : Nat) (Ay0_2 : Option Addr) (cy0_2 : Nat) (Ay0_3 : Option Addr) (cy0_3 : Nat) (L H : Gh), e = .returned (.tuple #[.pointer none, vi r1]) ∧ Inv [d0] G w L H w2 ∧ Tok H w2 d0 81 ([.slice Ay0_1 y0.F_.e0_.length cy0_1, .slice Ay0_2 y0.F_.e1_.length cy0_2, .slice Ay0_3 y0.F_.e2_.length cy0_3, vi y0.Room_, .bool y0.Off_, vi y0.Fuse_]) ∧ y0.F_.e0_.length ≤ cy0_1 ∧ Sl H Ay0_1 y0.F_.e0_ ∧ y0.F_.e1_.length ≤ cy0_2 ∧ Sl H Ay0_2 y0.F_.e1_ ∧ y0.F_.e2_.length ≤ cy0_3 ∧ Sl H Ay0_3 y0.F_.e2_ ∧ Q0 r1 y0) ∨ (∃ (r1 : Int) (y0 : sealskinref05_Disk) (Ay0_1 : Option Addr) (cy0_1 : Nat) (Ay0_2 : Option Addr) (cy0_2 : Nat) (Ay0_3 : Option Addr) (cy0_3 : Nat) (o1 : Nat) (y1 : sealskinref06_Journal) (Ay1_1 : Option Addr) (cy1_1 : Nat) (L H : Gh), e = .returned (.tuple #[.pointer (some ⟨o1, 0, none⟩), vi r1]) ∧ Inv [d0] G w L H w2 ∧ Tok H w2 d0 81 ([.slice Ay0_1 y0.F_.e0_.length cy0_1, .slice Ay0_2 y0.F_.e1_.length cy0_2, .slice Ay0_3 y0.F_.e2_.length cy0_3, vi y0.Room_, .bool y0.Off_, vi y0.Fuse_]) ∧ y0.F_.e0_.length ≤ cy0_1 ∧ Sl H Ay0_1 y0.F_.e0_ ∧ y0.F_.e1_.length ≤ cy0_2 ∧ Sl H Ay0_2 y0.F_.e1_ ∧ y0.F_.e2_.length ≤ cy0_3 ∧ Sl H Ay0_3 y0.F_.e2_ ∧ w.heap.size ≤ o1 ∧ Tok H w2 o1 73 ([.slice Ay1_1 y1.L_.length cy1_1, .pointer (some ⟨d0, 0, none⟩), vi y1.Gen_, vi y1.File_]) ∧ y1.L_.length ≤ cy1_1 ∧ Sl H Ay1_1 y1.L_ ∧ Q1 r1 y0 y1) := by
 unfold sealskinref06_Open at h
 have hI := Inv.start (M := [d0]) hS
 refine calls_W 159 Try.func28 rfl Try.ntmps28 rfl [.tmp 2, .tmp 3] rfl ?_
 have hlt_d0 := htd0.blk.lt
 refine W_seq_k fun K1 k1 => ?_
 refine W_region [2, 3] rfl (Ops_step (R_assign rfl) rfl rfl (Ops_step (R_assign rfl) rfl rfl ?_))
 refine Ops_nil ?_
 refine then_n (k1 _ _ ?_)
 clear k1 K1
 refine W_seq_k fun K2 k2 => ?_
 refine W_region [22, 23, 24, 4] rfl (Ops_step (R_move rfl) rfl rfl ?_)
 refine Ops_step (R_build (pl := [(1, 1)]) (cs := [.slice none 0 0, .pointer (some ⟨d0, 0, none⟩), vi 0, vi 0]) zr73 pl73 rfl rfl rfl) rfl rfl ?_
 have hI0_ := hI
 refine Ops_to (R_box rfl) rfl rfl ?_
 rintro _ w3_ ⟨b3_, rfl, hb3_, hB3_, hF3_⟩
 replace hI := hI.fr0 hF3_
 replace htd0 := htd0.fr0 hF3_
 have ht3_ : Tok G _ b3_ 73 ([.slice none 0 0, .pointer (some ⟨d0, 0, none⟩), vi 0, vi 0]) := ⟨hB3_.to rfl, Out.ge hI0_.st (Nat.le_of_eq hb3_.symm)⟩
 have hge_b3_ : w.heap.size ≤ b3_ := hb3_ ▸ hI0_.size
 clear hB3_ hb3_ hI0_ hF3_
 refine Ops_step (R_assign rfl) rfl rfl ?_
 refine Ops_nil ?_
 refine then_n (k2 _ _ ?_)
 clear k2 K2
 refine ex_ h fun J4_ hr4_ h => ?_
 refine W_seq_join [0, 4] [] (fun vals_ w2 => ∃ (yb3__4 : sealskinref06_Journal) (Ab3__4_1 : Option Addr) (cb3__4_1 : Nat) (L H : Gh), vals_ = [] ∧ J4_ yb3__4 ∧ Inv [d0] G w L H w2 ∧ Le Gh.no L ∧ Le G H ∧ Tok H w2 b3_ 73 ([.slice Ab3__4_1 yb3__4.L_.length cb3__4_1, .pointer (some ⟨d0, 0, none⟩), vi yb3__4.Gen_, vi yb3__4.File_]) ∧ yb3__4.L_.length ≤ cb3__4_1 ∧ Sl H Ab3__4_1 yb3__4.L_ ∧ Tok H w2 d0 81 ([.slice Ad0_1 z0.F_.e0_.length cd0_1, .slice Ad0_2 z0.F_.e1_.length cd0_2, .slice Ad0_3 z0.F_.e2_.length cd0_3, vi z0.Room_, .bool z0.Off_, vi z0.Fuse_]) ∧ True) (fun B_ b_ => ?_) (fun B_ b_ => ?_)
 ·
  simp only [e_, Nat.reduceAdd, Nat.reduceBEq] at b_
  subst b_
  clear hr4_
  have hll4_ := Le.refl Gh.no
  have hhh4_ := Le.refl G
  refine W_seq_k fun K5 k5 => ?_
  refine W_region [5] rfl (Ops_step (R_assign rfl) rfl rfl ?_)
  refine Ops_nil ?_
  refine then_n (k5 _ _ ?_)
  clear k5 K5
  refine W_block ?_
  refine Exists.elim h fun I6_ h => Exists.elim h fun n6_ h => ?_
  have h0_ := h.1
  have hs6_ := h.2
  clear h
  refine W_loopB [0, 4] [5] (fun m vals_ w2 => ∃ (x5_6 : Int) (yb3__6 : sealskinref06_Journal) (Ab3__6_1 : Option Addr) (cb3__6_1 : Nat) (L H : Gh), vals_ = [vi x5_6] ∧ I6_ m x5_6 yb3__6 ∧ Inv [d0] G w L H w2 ∧ Le Gh.no L ∧ Le G H ∧ Tok H w2 b3_ 73 ([.slice Ab3__6_1 yb3__6.L_.length cb3__6_1, .pointer (some ⟨d0, 0, none⟩), vi yb3__6.Gen_, vi yb3__6.File_]) ∧ yb3__6.L_.length ≤ cb3__6_1 ∧ Sl H Ab3__6_1 yb3__6.L_ ∧ Tok H w2 d0 81 ([.slice Ad0_1 z0.F_.e0_.length cd0_1, .slice Ad0_2 z0.F_.e1_.length cd0_2, .slice Ad0_3 z0.F_.e2_.length cd0_3, vi z0.Room_, .bool z0.Off_, vi z0.Fuse_]) ∧ True) n6_ _ rfl ⟨1, (sealskinref06_Journal.mk [] 0 0), none, 0, _, _, rfl, h0_, hI, Le.refl _, Le.refl _, ht3_, (Nat.le_refl 0), Sl.nil, htd0, trivial⟩ fun B_ b_ => ?_
  clear h0_
  simp only [e_, Nat.reduceAdd, Nat.reduceBEq] at b_
  subst b_
  clear htd0
  rintro m6_ _ w6_ ⟨x5_6, yb3__6, Ab3__6_1, cb3__6_1, L6_, H6_, rfl, hJ6_, hI6_, hll6_, hhh6_, htb3__6, hcb3__6_1, hsb3__6_1, htd0, -⟩
  replace hI := hI6_
  clear hI6_
  have h := hs6_ m6_ x5_6 yb3__6 hJ6_
  clear hs6_ hJ6_
  replace hsd0_1 := hsd0_1.up hhh6_
  replace hsd0_2 := hsd0_2.up hhh6_
  replace hsd0_3 := hsd0_3.up hhh6_
  replace hll4_ := hll4_.trans hll6_
  replace hhh4_ := hhh4_.trans hhh6_
  refine W_seq_k fun K7 k7 => ?_
  refine W_seq_k fun K8 k8 => ?_
  refine W_region [25, 26] rfl (Ops_step (R_move rfl) rfl rfl (Ops_step (R_lss rfl rfl) rfl rfl ?_))
  refine Ops_nil ?_
  refine then_n (k8 _ _ ?_)
  clear k8 K8
  refine W_if rfl (fun hc9_ => ?_) (fun hc9_ => ?_)
  ·
   replace h := h.1 hc9_
   refine W_skip ?_
   refine then_n (k7 _ _ ?_)
   clear k7 K7
   refine ex_ h fun J10_ hr10_ h => ?_
   refine W_seq_join [0, 4, 5] [] (fun vals_ w2 => ∃ (yb3__10 : sealskinref06_Journal) (Ab3__10_1 : Option Addr) (cb3__10_1 : Nat) (L H : Gh), vals_ = [] ∧ J10_ yb3__10 ∧ Inv [d0] G w L H w2 ∧ Le L6_ L ∧ Le H6_ H ∧ Tok H w2 b3_ 73 ([.slice Ab3__10_1 yb3__10.L_.length cb3__10_1, .pointer (some ⟨d0, 0, none⟩), vi yb3__10.Gen_, vi yb3__10.File_]) ∧ yb3__10.L_.length ≤ cb3__10_1 ∧ Sl H Ab3__10_1 yb3__10.L_ ∧ Tok H w2 d0 81 ([.slice Ad0_1 z0.F_.e0_.length cd0_1, .slice Ad0_2 z0.F_.e1_.length cd0_2, .slice Ad0_3 z0.F_.e2_.length cd0_3, vi z0.Room_, .bool z0.Off_, vi z0.Fuse_]) ∧ True) (fun B_ b_ => ?_) (fun B_ b_ => ?_)
   ·
    simp only [e_, Nat.reduceAdd, Nat.reduceBEq] at b_
    subst b_
    clear hr10_
    have hll10_ := Le.refl L6_
    have hhh10_ := Le.refl H6_
    refine W_block ?_
    refine W_seq_k fun K11 k11 => ?_
    refine W_region [30, 31, 32, 29, 33, 34, 6, 7] rfl (Ops_step (R_move rfl) rfl rfl (Ops_step (R_move rfl) rfl rfl ?_))
    refine Ops_call (C_func bd55 rfl) rfl rfl ?_
    refine (sealskinref05_Disk_Read_ok (x1 := x5_6) (z0 := z0) hI.st (hg.up hI.le) htd0 hcd0_1 hsd0_1 hcd0_2 hsd0_2 hcd0_3 hsd0_3 h).mono ?_
    rintro _ w12_ ⟨A12_0, c12_0, r12_0, r12_1, L12_, H12_, rfl, hI12_, hc12_0, hs12_0, h⟩
    refine Exists.elim (hI.call hI12_ (by simp)) fun L120_ h12_ => ?_
    have hz12_ := hI.size
    replace hI := h12_.1
    have u12_ := h12_.2.1
    have hl12_ := h12_.2.2
    clear h12_
    replace hsd0_1 := hsd0_1.up u12_.hh
    replace hsd0_2 := hsd0_2.up u12_.hh
    replace hsd0_3 := hsd0_3.up u12_.hh
    replace hll4_ := hll4_.trans u12_.ll
    replace hhh4_ := hhh4_.trans u12_.hh
    replace htd0 := htd0.up u12_ (by simp)
    replace htb3__6 := htb3__6.up u12_ (by simp)
    replace hsb3__6_1 := hsb3__6_1.up u12_.hh
    replace hll6_ := hll6_.trans u12_.ll
    replace hhh6_ := hhh6_.trans u12_.hh
    replace hll10_ := hll10_.trans u12_.ll
    replace hhh10_ := hhh10_.trans u12_.hh
    replace hs12_0 := hs12_0.up (Le.refl _)
    clear hI12_ u12_ hl12_
    refine ⟨_, rfl, ?_⟩
    refine Ops_step (R_move rfl) rfl rfl ?_
    refine Ops_step (R_extract (v := .slice A12_0 r12_0.length c12_0) rfl rfl) rfl rfl ?_
    refine Ops_step (R_extract (v := vi r12_1) rfl rfl) rfl rfl ?_
    refine Ops_step (R_assign rfl) rfl rfl (Ops_step (R_assign rfl) rfl rfl ?_)
    refine Ops_nil ?_
    refine then_n (k11 _ _ ?_)
    clear k11 K11
    refine W_keepB [0, 4, 5, 6, 7] fun B_ b_ => ?_
    simp only [e_, Nat.reduceAdd, Nat.reduceBEq] at b_
    subst b_
    refine W_seq_k fun K14 k14 => ?_
    refine W_seq_k fun K15 k15 => ?_
    refine W_region [35, 36] rfl (Ops_step (R_move rfl) rfl rfl (Ops_step (R_neq rfl rfl) rfl rfl ?_))
    refine Ops_nil ?_
    refine then_n (k15 _ _ ?_)
    clear k15 K15
    refine W_if rfl (fun hc16_ => ?_) (fun hc16_ => ?_)
    ·
     replace h := h.1 hc16_
     refine W_seq_k fun K17 k17 => ?_
     refine W_region [37, 2, 3] rfl (Ops_step (R_move rfl) rfl rfl (Ops_step (R_assign rfl) rfl rfl (Ops_step (R_assign rfl) rfl rfl ?_)))
     refine Ops_nil ?_
     refine then_n (k17 _ _ ?_)
     clear k17 K17
     refine W_keepB [2, 3] fun B_ b_ => ?_
     simp only [e_, Nat.reduceAdd, Nat.reduceBEq] at b_
     subst b_
     refine W_ret ?_
     refine then_ret ?_
     clear k14 K14
     refine block_ret ?_
     refine then_ret ?_
     refine then_ret ?_
     refine block_ret ?_
     refine then_ret ?_
     refine ⟨_, ⟨_, _, rfl, rfl, ⟨_, _, rfl, rfl, rfl⟩⟩, ?_⟩
     exact .inl ⟨r12_1, z0, Ad0_1, cd0_1, Ad0_2, cd0_2, Ad0_3, cd0_3, _, _, rfl, hI, htd0, hcd0_1, hsd0_1, hcd0_2, hsd0_2, hcd0_3, hsd0_3, h⟩
    ·
     replace h := h.2 hc16_
     refine W_skip ?_
     refine then_n (k14 _ _ ?_)
     clear k14 K14
     refine W_seq_k fun K19 k19 => ?_
     refine W_region [39, 40, 38, 41, 42, 8, 9] rfl (Ops_step (R_move rfl) rfl rfl ?_)
     refine Ops_call (C_func bd56 rfl) rfl rfl ?_
     refine (sealskinref02_All_ok (x0 := r12_0) hI.st (hg.up hI.le) hc12_0 hs12_0 h).mono ?_
     rintro _ w20_ ⟨A20_0, c20_0, r20_0, r20_1, L20_, H20_, rfl, hI20_, ho20_0, h⟩
     refine Exists.elim (hI.call hI20_ (by simp)) fun L200_ h20_ => ?_
     have hz20_ := hI.size
     replace hI := h20_.1
     have u20_ := h20_.2.1
     have hl20_ := h20_.2.2
     clear h20_
     replace hsd0_1 := hsd0_1.up u20_.hh
     replace hsd0_2 := hsd0_2.up u20_.hh
     replace hsd0_3 := hsd0_3.up u20_.hh
     replace hll4_ := hll4_.trans u20_.ll
     replace hhh4_ := hhh4_.trans u20_.hh
     replace htd0 := htd0.up u20_ (by simp)
     replace htb3__6 := htb3__6.up u20_ (by simp)
     replace hsb3__6_1 := hsb3__6_1.up u20_.hh
     replace hll6_ := hll6_.trans u20_.ll
     replace hhh6_ := hhh6_.trans u20_.hh
     replace hll10_ := hll10_.trans u20_.ll
     replace hhh10_ := hhh10_.trans u20_.hh
     replace hs12_0 := hs12_0.up u20_.hh
     replace ho20_0 := OwnS.back ho20_0 hz20_ hl20_ (Le.refl _)
     clear hI20_ u20_ hl20_
     refine ⟨_, rfl, ?_⟩
     refine Exists.elim (ho20_0.freeze hI) fun L21_ h21_ => Exists.elim h21_ fun H21_ h21_ => ?_
     replace hI := h21_.1
     have u21_ := h21_.2.1
     have hs21_ := h21_.2.2.1 (Le.refl _)
     have hc21_ := ho20_0.cap
     replace hsd0_1 := hsd0_1.up u21_.hh
     replace hsd0_2 := hsd0_2.up u21_.hh
     replace hsd0_3 := hsd0_3.up u21_.hh
     replace hll4_ := hll4_.trans u21_.ll
     replace hhh4_ := hhh4_.trans u21_.hh
     replace htd0 := htd0.up u21_ (ho20_0.old hlt_d0)
     replace htb3__6 := htb3__6.up u21_ (htb3__6.sep ho20_0 (by decide))
     replace hsb3__6_1 := hsb3__6_1.up u21_.hh
     replace hll6_ := hll6_.trans u21_.ll
     replace hhh6_ := hhh6_.trans u21_.hh
     replace hll10_ := hll10_.trans u21_.ll
     replace hhh10_ := hhh10_.trans u21_.hh
     replace hs12_0 := hs12_0.up u21_.hh
     clear h21_ u21_ ho20_0
     refine Ops_step (R_move rfl) rfl rfl ?_
     refine Ops_step (R_extract (v := .slice A20_0 r20_0.length c20_0) rfl rfl) rfl rfl ?_
     refine Ops_step (R_extract (v := vi r20_1) rfl rfl) rfl rfl ?_
     refine Ops_step (R_assign rfl) rfl rfl (Ops_step (R_assign rfl) rfl rfl ?_)
     refine Ops_nil ?_
     refine then_n (k19 _ _ ?_)
     clear k19 K19
     refine W_keepB [0, 4, 5, 6, 8, 9] fun B_ b_ => ?_
     simp only [e_, Nat.reduceAdd, Nat.reduceBEq] at b_
     subst b_
     refine W_seq_k fun K23 k23 => ?_
     refine W_region [44, 45, 43, 46, 47, 10, 11] rfl (Ops_step (R_move rfl) rfl rfl ?_)
     refine Ops_call (C_func bd57 rfl) rfl rfl ?_
     refine (sealskinref06_top_ok (x0 := r20_0) hI.st (hg.up hI.le) hc21_ (hs21_.up hI.sub) h).mono ?_
     rintro _ w24_ ⟨r24_0, r24_1, L24_, H24_, rfl, hI24_, h⟩
     refine Exists.elim (hI.call hI24_ (by simp)) fun L240_ h24_ => ?_
     have hz24_ := hI.size
     replace hI := h24_.1
     have u24_ := h24_.2.1
     have hl24_ := h24_.2.2
     clear h24_
     replace hsd0_1 := hsd0_1.up u24_.hh
     replace hsd0_2 := hsd0_2.up u24_.hh
     replace hsd0_3 := hsd0_3.up u24_.hh
     replace hll4_ := hll4_.trans u24_.ll
     replace hhh4_ := hhh4_.trans u24_.hh
     replace htd0 := htd0.up u24_ (by simp)
     replace htb3__6 := htb3__6.up u24_ (by simp)
     replace hsb3__6_1 := hsb3__6_1.up u24_.hh
     replace hll6_ := hll6_.trans u24_.ll
     replace hhh6_ := hhh6_.trans u24_.hh
     replace hll10_ := hll10_.trans u24_.ll
     replace hhh10_ := hhh10_.trans u24_.hh
     replace hs12_0 := hs12_0.up u24_.hh
     replace hs21_ := hs21_.up u24_.ll
     clear hI24_ u24_ hl24_
     refine ⟨_, rfl, ?_⟩
     refine Ops_step (R_move rfl) rfl rfl ?_
     refine Ops_step (R_extract (v := vi r24_0) rfl rfl) rfl rfl ?_
     refine Ops_step (R_extract (v := vi r24_1) rfl rfl) rfl rfl ?_
     refine Ops_step (R_assign rfl) rfl rfl (Ops_step (R_assign rfl) rfl rfl ?_)
     refine Ops_nil ?_
     refine then_n (k23 _ _ ?_)
     clear k23 K23
     refine W_seq_k fun K25 k25 => ?_
     refine ex_ h fun J26_ hr26_ h => ?_
     refine W_seq_join [0, 4, 5, 8, 10, 11] [59] (fun vals_ w2 => ∃ (x59_26 : Bool) (L H : Gh), vals_ = [.bool x59_26] ∧ J26_ x59_26 ∧ Inv [d0] G w L H w2 ∧ Le L240_ L ∧ Le H24_ H ∧ Tok H w2 d0 81 ([.slice Ad0_1 z0.F_.e0_.length cd0_1, .slice Ad0_2 z0.F_.e1_.length cd0_2, .slice Ad0_3 z0.F_.e2_.length cd0_3, vi z0.Room_, .bool z0.Off_, vi z0.Fuse_]) ∧ Tok H w2 b3_ 73 ([.slice Ab3__6_1 yb3__6.L_.length cb3__6_1, .pointer (some ⟨d0, 0, none⟩), vi yb3__6.Gen_, vi yb3__6.File_]) ∧ True) (fun B_ b_ => ?_) (fun B_ b_ => ?_)
     ·
      simp only [e_, Nat.reduceAdd, Nat.reduceBEq] at b_
      subst b_
      clear hr26_
      have hll26_ := Le.refl L240_
      have hhh26_ := Le.refl H24_
      refine W_region [48, 49, 50, 51, 52, 53, 54, 55, 56, 57, 58, 59] rfl (Ops_step (R_move rfl) rfl rfl (Ops_step (R_move rfl) rfl rfl (Ops_step (R_nilCheck rfl) rfl rfl (Ops_step (R_fieldAddr fo73_2 rfl) rfl rfl ?_))))
      refine Ops_step (R_loadB (v := vi yb3__6.Gen_) ag3 rfl htb3__6.blk rfl) rfl rfl ?_
      refine Ops_step (R_leq rfl rfl) rfl rfl (Ops_step (R_move rfl) rfl rfl ?_)
      refine Ops_split 54 rfl (fun hg27_ => ?_) (fun hg27_ => ?_)
      ·
       replace h := h.1 hg27_
       refine Ops_pass rfl rfl (Ops_pass rfl rfl (Ops_pass rfl rfl (Ops_pass rfl rfl (Ops_step (R_pick_true rfl rfl) rfl rfl ?_))))
       refine Ops_nil ?_
       refine then_n ?_
       exact ⟨_, rfl, ⟨true, _, _, rfl, h, hI, hll26_, hhh26_, htd0, htb3__6, trivial⟩, ⟨rfl, rfl, rfl, rfl, rfl, rfl, trivial⟩⟩
      ·
       replace h := h.2 hg27_
       refine Ops_step (R_move rfl) rfl rfl (Ops_step (R_move rfl) rfl rfl (Ops_step (R_len Try.underlying29 rfl rfl) rfl rfl (Ops_step (R_neq rfl rfl) rfl rfl (Ops_step (R_pick_false rfl rfl) rfl rfl ?_))))
       refine Ops_nil ?_
       refine then_n ?_
       exact ⟨_, rfl, ⟨(decide (r20_1 ≠ (r12_0.length : Int))), _, _, rfl, h, hI, hll26_, hhh26_, htd0, htb3__6, trivial⟩, ⟨rfl, rfl, rfl, rfl, rfl, rfl, trivial⟩⟩
     ·
      simp only [e_, Nat.reduceAdd, Nat.reduceBEq] at b_
      subst b_
      clear h
      clear htb3__6
      clear htd0
      rintro _ w26_ ⟨x59_26, L26_, H26_, rfl, hJ26_, hI26_, hll26_, hhh26_, htd0, htb3__6, -⟩
      replace hI := hI26_
      clear hI26_
      have h := hr26_ x59_26 hJ26_
      clear hr26_ hJ26_
      replace hsd0_1 := hsd0_1.up hhh26_
      replace hsd0_2 := hsd0_2.up hhh26_
      replace hsd0_3 := hsd0_3.up hhh26_
      replace hll4_ := hll4_.trans hll26_
      replace hhh4_ := hhh4_.trans hhh26_
      replace hsb3__6_1 := hsb3__6_1.up hhh26_
      replace hll6_ := hll6_.trans hll26_
      replace hhh6_ := hhh6_.trans hhh26_
      replace hll10_ := hll10_.trans hll26_
      replace hhh10_ := hhh10_.trans hhh26_
      replace hs21_ := hs21_.up hll26_
      refine W_cond rfl (fun hc28_ => ?_) (fun hc28_ => ?_)
      ·
       replace h := h.1 hc28_
       refine W_exit ?_
       refine then_exit ?_
       clear k25 K25
       refine block_exit ?_
       refine then_n ?_
       exact ⟨_, rfl, ⟨yb3__6, Ab3__6_1, cb3__6_1, _, _, rfl, h, hI, hll10_, hhh10_, htb3__6, hcb3__6_1, hsb3__6_1, htd0, trivial⟩, ⟨rfl, rfl, rfl, trivial⟩⟩
      ·
       replace h := h.2 hc28_
       refine W_skip ?_
       refine then_n (k25 _ _ ?_)
       clear k25 K25
       refine W_seq_k fun K29 k29 => ?_
       refine W_region [60, 61, 62, 12] rfl (Ops_step (R_move rfl) rfl rfl ?_)
       have hk31_ := h.1
       replace h := h.2
       refine Exists.elim (cut_ex (n := 1) (l := 1) (h := (r20_0.length : Int)) (hs21_.up hI.sub) rfl (by decide) hc21_ (by decide) hk31_ (Int.le_refl _)) fun A30_ h30_ => Exists.elim h30_ fun c30_ h30_ => ?_
       have hr30_ := h30_.1
       have hc30_ := h30_.2.1
       have hs30_ := h30_.2.2
       clear h30_
       refine Ops_step (X_slice (xs := r20_0) Try.underlying67 sz29 rfl hr30_ hc21_ rfl rfl (by decide) hk31_ (Int.le_refl _)) rfl rfl ?_
       clear hr30_
       refine Ops_call (C_func bd58 rfl) rfl rfl ?_
       refine (sealskinref06_rest_ok (x0 := (cut r20_0 1 (r20_0.length : Int))) (x1 := 0) hI.st (hg.up hI.le) hc30_ hs30_ h).mono ?_
       rintro _ w32_ ⟨A32_0, c32_0, r32_0, L32_, H32_, rfl, hI32_, ho32_0, h⟩
       refine Exists.elim (hI.call hI32_ (by simp)) fun L320_ h32_ => ?_
       have hz32_ := hI.size
       replace hI := h32_.1
       have u32_ := h32_.2.1
       have hl32_ := h32_.2.2
       clear h32_
       replace hsd0_1 := hsd0_1.up u32_.hh
       replace hsd0_2 := hsd0_2.up u32_.hh
       replace hsd0_3 := hsd0_3.up u32_.hh
       replace hll4_ := hll4_.trans u32_.ll
       replace hhh4_ := hhh4_.trans u32_.hh
       replace hsb3__6_1 := hsb3__6_1.up u32_.hh
       replace hll6_ := hll6_.trans u32_.ll
       replace hhh6_ := hhh6_.trans u32_.hh
       replace hll10_ := hll10_.trans u32_.ll
       replace hhh10_ := hhh10_.trans u32_.hh
       replace hs21_ := hs21_.up u32_.ll
       replace htd0 := htd0.up u32_ (by simp)
       replace htb3__6 := htb3__6.up u32_ (by simp)
       replace ho32_0 := OwnS.back ho32_0 hz32_ hl32_ (Le.refl _)
       clear hI32_ u32_ hl32_
       refine ⟨_, rfl, ?_⟩
       refine Exists.elim (ho32_0.freeze hI) fun L33_ h33_ => Exists.elim h33_ fun H33_ h33_ => ?_
       replace hI := h33_.1
       have u33_ := h33_.2.1
       have hs33_ := h33_.2.2.1 (Le.refl _)
       have hc33_ := ho32_0.cap
       replace hsd0_1 := hsd0_1.up u33_.hh
       replace hsd0_2 := hsd0_2.up u33_.hh
       replace hsd0_3 := hsd0_3.up u33_.hh
       replace hll4_ := hll4_.trans u33_.ll
       replace hhh4_ := hhh4_.trans u33_.hh
       replace hsb3__6_1 := hsb3__6_1.up u33_.hh
       replace hll6_ := hll6_.trans u33_.ll
       replace hhh6_ := hhh6_.trans u33_.hh
       replace hll10_ := hll10_.trans u33_.ll
       replace hhh10_ := hhh10_.trans u33_.hh
       replace hs21_ := hs21_.up u33_.ll
       replace htd0 := htd0.up u33_ (ho32_0.old hlt_d0)
       replace htb3__6 := htb3__6.up u33_ (htb3__6.sep ho32_0 (by decide))
       clear h33_ u33_ ho32_0
       refine Ops_step (R_assign rfl) rfl rfl ?_
       refine Ops_nil ?_
       refine then_n (k29 _ _ ?_)
       clear k29 K29
       refine ex_ h fun J34_ hr34_ h => ?_
       refine W_seq_join [0, 4, 5, 10, 12] [74] (fun vals_ w2 => ∃ (x74_34 : Bool) (L H : Gh), vals_ = [.bool x74_34] ∧ J34_ x74_34 ∧ Inv [d0] G w L H w2 ∧ Le L33_ L ∧ Le H33_ H ∧ Tok H w2 d0 81 ([.slice Ad0_1 z0.F_.e0_.length cd0_1, .slice Ad0_2 z0.F_.e1_.length cd0_2, .slice Ad0_3 z0.F_.e2_.length cd0_3, vi z0.Room_, .bool z0.Off_, vi z0.Fuse_]) ∧ Tok H w2 b3_ 73 ([.slice Ab3__6_1 yb3__6.L_.length cb3__6_1, .pointer (some ⟨d0, 0, none⟩), vi yb3__6.Gen_, vi yb3__6.File_]) ∧ True) (fun B_ b_ => ?_) (fun B_ b_ => ?_)
       ·
        simp only [e_, Nat.reduceAdd, Nat.reduceBEq] at b_
        subst b_
        clear hr34_
        have hll34_ := Le.refl L33_
        have hhh34_ := Le.refl H33_
        refine W_region [63, 64, 65, 66, 67, 68, 69, 70, 71, 72, 73, 74] rfl (Ops_step (R_move rfl) rfl rfl (Ops_step (R_len Try.underlying36 rfl rfl) rfl rfl (Ops_step (R_move rfl) rfl rfl (Ops_step (R_eql rfl rfl) rfl rfl ?_))))
        refine Ops_step (R_move rfl) rfl rfl ?_
        refine Ops_split 67 rfl (fun hg35_ => ?_) (fun hg35_ => ?_)
        ·
         replace h := h.1 hg35_
         refine Ops_step (R_move rfl) rfl rfl (Ops_step (R_len Try.underlying36 rfl rfl) rfl rfl (Ops_step (R_move rfl) rfl rfl (Ops_step (R_len Try.underlying67 rfl rfl) rfl rfl ?_)))
         have hk36_ := h.1
         replace h := h.2
         refine Ops_step (R_sub rfl rfl (wI hk36_.1 hk36_.2)) rfl rfl (Ops_step (R_eql rfl rfl) rfl rfl (Ops_step (R_pick_true rfl rfl) rfl rfl ?_))
         refine Ops_nil ?_
         refine then_n ?_
         exact ⟨_, rfl, ⟨(decide ((r32_0.length : Int) = ((r20_0.length : Int) - 1))), _, _, rfl, h, hI, hll34_, hhh34_, htd0, htb3__6, trivial⟩, ⟨rfl, rfl, rfl, rfl, rfl, trivial⟩⟩
        ·
         replace h := h.2 hg35_
         refine Ops_pass rfl rfl (Ops_pass rfl rfl (Ops_pass rfl rfl (Ops_pass rfl rfl (Ops_pass rfl rfl ?_))))
         refine Ops_pass rfl rfl (Ops_step (R_pick_false rfl rfl) rfl rfl ?_)
         refine Ops_nil ?_
         refine then_n ?_
         exact ⟨_, rfl, ⟨false, _, _, rfl, h, hI, hll34_, hhh34_, htd0, htb3__6, trivial⟩, ⟨rfl, rfl, rfl, rfl, rfl, trivial⟩⟩
       ·
        simp only [e_, Nat.reduceAdd, Nat.reduceBEq] at b_
        subst b_
        clear h
        clear htb3__6
        clear htd0
        rintro _ w34_ ⟨x74_34, L34_, H34_, rfl, hJ34_, hI34_, hll34_, hhh34_, htd0, htb3__6, -⟩
        replace hI := hI34_
        clear hI34_
        have h := hr34_ x74_34 hJ34_
        clear hr34_ hJ34_
        replace hsd0_1 := hsd0_1.up hhh34_
        replace hsd0_2 := hsd0_2.up hhh34_
        replace hsd0_3 := hsd0_3.up hhh34_
        replace hll4_ := hll4_.trans hll34_
        replace hhh4_ := hhh4_.trans hhh34_
        replace hsb3__6_1 := hsb3__6_1.up hhh34_
        replace hll6_ := hll6_.trans hll34_
        replace hhh6_ := hhh6_.trans hhh34_
        replace hll10_ := hll10_.trans hll34_
        replace hhh10_ := hhh10_.trans hhh34_
        replace hs33_ := hs33_.up hll34_
        refine W_cond rfl (fun hc37_ => ?_) (fun hc37_ => ?_)
        ·
         replace h := h.1 hc37_
         refine W_seq_k fun K38 k38 => ?_
         refine W_region [75, 76, 77, 78, none] rfl (Ops_step (R_move rfl) rfl rfl (Ops_step (R_move rfl) rfl rfl (Ops_step (R_nilCheck rfl) rfl rfl (Ops_step (R_fieldAddr fo73_2 rfl) rfl rfl ?_))))
         refine Ops_to0 (R_store sz3 rfl rfl htb3__6.blk (by show 2 < 4; decide) rfl) rfl ?_
         rintro _ w39_ ⟨hB39_, hF39_⟩
         replace hI := hI.tok hF39_ (out1 htb3__6.out) (new1 hge_b3_)
         replace htd0 := htd0.fr hF39_ (htd0.apart htb3__6 (by decide))
         replace htb3__6 : Tok H34_ _ b3_ 73 ([.slice Ab3__6_1 yb3__6.L_.length cb3__6_1, .pointer (some ⟨d0, 0, none⟩), vi r24_0, vi yb3__6.File_]) := ⟨hB39_, htb3__6.out⟩
         clear hF39_ hB39_
         refine Ops_nil ?_
         refine then_n (k38 _ _ ?_)
         clear k38 K38
         refine W_keepB [0, 4, 5, 12] fun B_ b_ => ?_
         simp only [e_, Nat.reduceAdd, Nat.reduceBEq] at b_
         subst b_
         refine W_seq_k fun K41 k41 => ?_
         refine W_region [79, 80, 81, 82, none] rfl (Ops_step (R_move rfl) rfl rfl (Ops_step (R_move rfl) rfl rfl (Ops_step (R_nilCheck rfl) rfl rfl (Ops_step (R_fieldAddr fo73_3 rfl) rfl rfl ?_))))
         refine Ops_to0 (R_store sz3 rfl rfl htb3__6.blk (by show 3 < 4; decide) rfl) rfl ?_
         rintro _ w42_ ⟨hB42_, hF42_⟩
         replace hI := hI.tok hF42_ (out1 htb3__6.out) (new1 hge_b3_)
         replace htd0 := htd0.fr hF42_ (htd0.apart htb3__6 (by decide))
         replace htb3__6 : Tok H34_ _ b3_ 73 ([.slice Ab3__6_1 yb3__6.L_.length cb3__6_1, .pointer (some ⟨d0, 0, none⟩), vi r24_0, vi x5_6]) := ⟨hB42_, htb3__6.out⟩
         clear hF42_ hB42_
         refine Ops_nil ?_
         refine then_n (k41 _ _ ?_)
         clear k41 K41
         refine W_region [83, 84, 85, 86, none] rfl (Ops_step (R_move rfl) rfl rfl (Ops_step (R_move rfl) rfl rfl (Ops_step (R_nilCheck rfl) rfl rfl (Ops_step (R_fieldAddr fo73_0 rfl) rfl rfl ?_))))
         refine Ops_to0 (R_store sz36 rfl rfl htb3__6.blk (by show 0 < 4; decide) rfl) rfl ?_
         rintro _ w43_ ⟨hB43_, hF43_⟩
         replace hI := hI.tok hF43_ (out1 htb3__6.out) (new1 hge_b3_)
         replace htd0 := htd0.fr hF43_ (htd0.apart htb3__6 (by decide))
         replace htb3__6 : Tok H34_ _ b3_ 73 ([.slice A32_0 r32_0.length c32_0, .pointer (some ⟨d0, 0, none⟩), vi r24_0, vi x5_6]) := ⟨hB43_, htb3__6.out⟩
         clear hF43_ hB43_
         refine Ops_nil ?_
         refine block_n ?_
         refine then_n ?_
         exact ⟨_, rfl, ⟨(sealskinref06_Journal.mk r32_0 r24_0 x5_6), A32_0, c32_0, _, _, rfl, h, hI, hll10_, hhh10_, htb3__6, hc33_, (hs33_.up hI.sub), htd0, trivial⟩, ⟨rfl, rfl, rfl, trivial⟩⟩
        ·
         replace h := h.2 hc37_
         refine W_skip ?_
         refine block_n ?_
         refine then_n ?_
         exact ⟨_, rfl, ⟨yb3__6, Ab3__6_1, cb3__6_1, _, _, rfl, h, hI, hll10_, hhh10_, htb3__6, hcb3__6_1, hsb3__6_1, htd0, trivial⟩, ⟨rfl, rfl, rfl, trivial⟩⟩
   ·
    simp only [e_, Nat.reduceAdd, Nat.reduceBEq] at b_
    subst b_
    clear h
    clear htd0
    rintro _ w10_ ⟨yb3__10, Ab3__10_1, cb3__10_1, L10_, H10_, rfl, hJ10_, hI10_, hll10_, hhh10_, htb3__10, hcb3__10_1, hsb3__10_1, htd0, -⟩
    replace hI := hI10_
    clear hI10_
    have h := hr10_ yb3__10 hJ10_
    clear hr10_ hJ10_
    replace hsd0_1 := hsd0_1.up hhh10_
    replace hsd0_2 := hsd0_2.up hhh10_
    replace hsd0_3 := hsd0_3.up hhh10_
    replace hll4_ := hll4_.trans hll10_
    replace hhh4_ := hhh4_.trans hhh10_
    replace hll6_ := hll6_.trans hll10_
    replace hhh6_ := hhh6_.trans hhh10_
    refine W_region [27, 28, 5] rfl (Ops_step (R_move rfl) rfl rfl ?_)
    have hk44_ := h.1
    replace h := h.2
    refine Ops_step (R_add rfl rfl (wI hk44_.1 hk44_.2)) rfl rfl (Ops_step (R_assign rfl) rfl rfl ?_)
    refine Ops_nil ?_
    refine then_n ?_
    exact h.elim fun m_ h => ⟨m_, _, h.1, rfl, ⟨(x5_6 + 1), yb3__10, Ab3__10_1, cb3__10_1, _, _, rfl, h.2, hI, hll6_, hhh6_, htb3__10, hcb3__10_1, hsb3__10_1, htd0, trivial⟩, ⟨rfl, rfl, trivial⟩⟩
  ·
   replace h := h.2 hc9_
   refine W_exit ?_
   refine then_exit ?_
   clear k7 K7
   refine then_exit ?_
   refine block_exit ?_
   refine then_n ?_
   exact ⟨_, rfl, ⟨yb3__6, Ab3__6_1, cb3__6_1, _, _, rfl, h, hI, hll4_, hhh4_, htb3__6, hcb3__6_1, hsb3__6_1, htd0, trivial⟩, ⟨rfl, rfl, trivial⟩⟩
 ·
  simp only [e_, Nat.reduceAdd, Nat.reduceBEq] at b_
  subst b_
  clear h
  clear htd0
  rintro _ w4_ ⟨yb3__4, Ab3__4_1, cb3__4_1, L4_, H4_, rfl, hJ4_, hI4_, hll4_, hhh4_, htb3__4, hcb3__4_1, hsb3__4_1, htd0, -⟩
  replace hI := hI4_
  clear hI4_
  have h := hr4_ yb3__4 hJ4_
  clear hr4_ hJ4_
  replace hsd0_1 := hsd0_1.up hhh4_
  replace hsd0_2 := hsd0_2.up hhh4_
  replace hsd0_3 := hsd0_3.up hhh4_
  refine W_seq_k fun K45 k45 => ?_
  refine W_region [88, 89, 87, 90, 91, 13, 14] rfl (Ops_step (R_move rfl) rfl rfl ?_)
  refine Ops_call (C_func bd55 rfl) rfl rfl ?_
  refine (sealskinref05_Disk_Read_ok (x1 := 0) (z0 := z0) hI.st (hg.up hI.le) htd0 hcd0_1 hsd0_1 hcd0_2 hsd0_2 hcd0_3 hsd0_3 h).mono ?_
  rintro _ w46_ ⟨A46_0, c46_0, r46_0, r46_1, L46_, H46_, rfl, hI46_, hc46_0, hs46_0, h⟩
  refine Exists.elim (hI.call hI46_ (by simp)) fun L460_ h46_ => ?_
  have hz46_ := hI.size
  replace hI := h46_.1
  have u46_ := h46_.2.1
  have hl46_ := h46_.2.2
  clear h46_
  replace hsd0_1 := hsd0_1.up u46_.hh
  replace hsd0_2 := hsd0_2.up u46_.hh
  replace hsd0_3 := hsd0_3.up u46_.hh
  replace htd0 := htd0.up u46_ (by simp)
  replace htb3__4 := htb3__4.up u46_ (by simp)
  replace hsb3__4_1 := hsb3__4_1.up u46_.hh
  replace hs46_0 := hs46_0.up (Le.refl _)
  clear hI46_ u46_ hl46_
  refine ⟨_, rfl, ?_⟩
  refine Ops_step (R_move rfl) rfl rfl ?_
  refine Ops_step (R_extract (v := .slice A46_0 r46_0.length c46_0) rfl rfl) rfl rfl ?_
  refine Ops_step (R_extract (v := vi r46_1) rfl rfl) rfl rfl ?_
  refine Ops_step (R_assign rfl) rfl rfl (Ops_step (R_assign rfl) rfl rfl ?_)
  refine Ops_nil ?_
  refine then_n (k45 _ _ ?_)
  clear k45 K45
  refine W_keepB [4, 13, 14] fun B_ b_ => ?_
  simp only [e_, Nat.reduceAdd, Nat.reduceBEq] at b_
  subst b_
  refine W_seq_k fun K48 k48 => ?_
  refine W_seq_k fun K49 k49 => ?_
  refine W_region [92, 93] rfl (Ops_step (R_move rfl) rfl rfl (Ops_step (R_neq rfl rfl) rfl rfl ?_))
  refine Ops_nil ?_
  refine then_n (k49 _ _ ?_)
  clear k49 K49
  refine W_if rfl (fun hc50_ => ?_) (fun hc50_ => ?_)
  ·
   replace h := h.1 hc50_
   refine W_seq_k fun K51 k51 => ?_
   refine W_region [94, 2, 3] rfl (Ops_step (R_move rfl) rfl rfl (Ops_step (R_assign rfl) rfl rfl (Ops_step (R_assign rfl) rfl rfl ?_)))
   refine Ops_nil ?_
   refine then_n (k51 _ _ ?_)
   clear k51 K51
   refine W_keepB [2, 3] fun B_ b_ => ?_
   simp only [e_, Nat.reduceAdd, Nat.reduceBEq] at b_
   subst b_
   refine W_ret ?_
   refine then_ret ?_
   clear k48 K48
   refine ⟨_, ⟨_, _, rfl, rfl, ⟨_, _, rfl, rfl, rfl⟩⟩, ?_⟩
   exact .inl ⟨r46_1, z0, Ad0_1, cd0_1, Ad0_2, cd0_2, Ad0_3, cd0_3, _, _, rfl, hI, htd0, hcd0_1, hsd0_1, hcd0_2, hsd0_2, hcd0_3, hsd0_3, h⟩
  ·
   replace h := h.2 hc50_
   refine W_skip ?_
   refine then_n (k48 _ _ ?_)
   clear k48 K48
   refine W_seq_k fun K53 k53 => ?_
   refine W_region [96, 97, 95, 98, 99, 15, 16] rfl (Ops_step (R_move rfl) rfl rfl ?_)
   refine Ops_call (C_func bd56 rfl) rfl rfl ?_
   refine (sealskinref02_All_ok (x0 := r46_0) hI.st (hg.up hI.le) hc46_0 hs46_0 h).mono ?_
   rintro _ w54_ ⟨A54_0, c54_0, r54_0, r54_1, L54_, H54_, rfl, hI54_, ho54_0, h⟩
   refine Exists.elim (hI.call hI54_ (by simp)) fun L540_ h54_ => ?_
   have hz54_ := hI.size
   replace hI := h54_.1
   have u54_ := h54_.2.1
   have hl54_ := h54_.2.2
   clear h54_
   replace hsd0_1 := hsd0_1.up u54_.hh
   replace hsd0_2 := hsd0_2.up u54_.hh
   replace hsd0_3 := hsd0_3.up u54_.hh
   replace htd0 := htd0.up u54_ (by simp)
   replace htb3__4 := htb3__4.up u54_ (by simp)
   replace hsb3__4_1 := hsb3__4_1.up u54_.hh
   replace hs46_0 := hs46_0.up u54_.hh
   replace ho54_0 := OwnS.back ho54_0 hz54_ hl54_ (Le.refl _)
   clear hI54_ u54_ hl54_
   refine ⟨_, rfl, ?_⟩
   refine Exists.elim (ho54_0.freeze hI) fun L55_ h55_ => Exists.elim h55_ fun H55_ h55_ => ?_
   replace hI := h55_.1
   have u55_ := h55_.2.1
   have hs55_ := h55_.2.2.1 (Le.refl _)
   have hc55_ := ho54_0.cap
   replace hsd0_1 := hsd0_1.up u55_.hh
   replace hsd0_2 := hsd0_2.up u55_.hh
   replace hsd0_3 := hsd0_3.up u55_.hh
   replace htd0 := htd0.up u55_ (ho54_0.old hlt_d0)
   replace htb3__4 := htb3__4.up u55_ (htb3__4.sep ho54_0 (by decide))
   replace hsb3__4_1 := hsb3__4_1.up u55_.hh
   replace hs46_0 := hs46_0.up u55_.hh
   clear h55_ u55_ ho54_0
   refine Ops_step (R_move rfl) rfl rfl ?_
   refine Ops_step (R_extract (v := .slice A54_0 r54_0.length c54_0) rfl rfl) rfl rfl ?_
   refine Ops_step (R_extract (v := vi r54_1) rfl rfl) rfl rfl ?_
   refine Ops_step (R_assign rfl) rfl rfl (Ops_step (R_assign rfl) rfl rfl ?_)
   refine Ops_nil ?_
   refine then_n (k53 _ _ ?_)
   clear k53 K53
   refine W_keepB [4, 13, 15, 16] fun B_ b_ => ?_
   simp only [e_, Nat.reduceAdd, Nat.reduceBEq] at b_
   subst b_
   refine W_seq_k fun K57 k57 => ?_
   refine W_region [101, 102, 100, 103, 104, 17, 18] rfl (Ops_step (R_move rfl) rfl rfl ?_)
   refine Ops_call (C_func bd57 rfl) rfl rfl ?_
   refine (sealskinref06_top_ok (x0 := r54_0) hI.st (hg.up hI.le) hc55_ (hs55_.up hI.sub) h).mono ?_
   rintro _ w58_ ⟨r58_0, r58_1, L58_, H58_, rfl, hI58_, h⟩
   refine Exists.elim (hI.call hI58_ (by simp)) fun L580_ h58_ => ?_
   have hz58_ := hI.size
   replace hI := h58_.1
   have u58_ := h58_.2.1
   have hl58_ := h58_.2.2
   clear h58_
   replace hsd0_1 := hsd0_1.up u58_.hh
   replace hsd0_2 := hsd0_2.up u58_.hh
   replace hsd0_3 := hsd0_3.up u58_.hh
   replace htd0 := htd0.up u58_ (by simp)
   replace htb3__4 := htb3__4.up u58_ (by simp)
   replace hsb3__4_1 := hsb3__4_1.up u58_.hh
   replace hs46_0 := hs46_0.up u58_.hh
   replace hs55_ := hs55_.up u58_.ll
   clear hI58_ u58_ hl58_
   refine ⟨_, rfl, ?_⟩
   refine Ops_step (R_move rfl) rfl rfl ?_
   refine Ops_step (R_extract (v := vi r58_0) rfl rfl) rfl rfl ?_
   refine Ops_step (R_extract (v := vi r58_1) rfl rfl) rfl rfl ?_
   refine Ops_step (R_assign rfl) rfl rfl (Ops_step (R_assign rfl) rfl rfl ?_)
   refine Ops_nil ?_
   refine then_n (k57 _ _ ?_)
   clear k57 K57
   refine W_seq_k fun K59 k59 => ?_
   refine W_region [19] rfl (Ops_step (R_assign rfl) rfl rfl ?_)
   refine Ops_nil ?_
   refine then_n (k59 _ _ ?_)
   clear k59 K59
   refine ex_ h fun J60_ hr60_ h => ?_
   refine W_seq_join [4] [19] (fun vals_ w2 => ∃ (x19_60 : Bool) (yb3__60 : sealskinref06_Journal) (Ab3__60_1 : Option Addr) (cb3__60_1 : Nat) (L H : Gh), vals_ = [.bool x19_60] ∧ J60_ x19_60 yb3__60 ∧ Inv [d0] G w L H w2 ∧ Le L580_ L ∧ Le H58_ H ∧ Tok H w2 b3_ 73 ([.slice Ab3__60_1 yb3__60.L_.length cb3__60_1, .pointer (some ⟨d0, 0, none⟩), vi yb3__60.Gen_, vi yb3__60.File_]) ∧ yb3__60.L_.length ≤ cb3__60_1 ∧ Sl H Ab3__60_1 yb3__60.L_ ∧ Tok H w2 d0 81 ([.slice Ad0_1 z0.F_.e0_.length cd0_1, .slice Ad0_2 z0.F_.e1_.length cd0_2, .slice Ad0_3 z0.F_.e2_.length cd0_3, vi z0.Room_, .bool z0.Off_, vi z0.Fuse_]) ∧ True) (fun B_ b_ => ?_) (fun B_ b_ => ?_)
   ·
    simp only [e_, Nat.reduceAdd, Nat.reduceBEq] at b_
    subst b_
    clear hr60_
    have hll60_ := Le.refl L580_
    have hhh60_ := Le.refl H58_
    refine ex_ h fun J61_ hr61_ h => ?_
    refine W_seq_join [4, 13, 15, 16, 18, 19] [123] (fun vals_ w2 => ∃ (x123_61 : Bool) (L H : Gh), vals_ = [.bool x123_61] ∧ J61_ x123_61 ∧ Inv [d0] G w L H w2 ∧ Le L580_ L ∧ Le H58_ H ∧ Tok H w2 d0 81 ([.slice Ad0_1 z0.F_.e0_.length cd0_1, .slice Ad0_2 z0.F_.e1_.length cd0_2, .slice Ad0_3 z0.F_.e2_.length cd0_3, vi z0.Room_, .bool z0.Off_, vi z0.Fuse_]) ∧ Tok H w2 b3_ 73 ([.slice Ab3__4_1 yb3__4.L_.length cb3__4_1, .pointer (some ⟨d0, 0, none⟩), vi yb3__4.Gen_, vi yb3__4.File_]) ∧ True) (fun B_ b_ => ?_) (fun B_ b_ => ?_)
    ·
     simp only [e_, Nat.reduceAdd, Nat.reduceBEq] at b_
     subst b_
     clear hr61_
     have hll61_ := Le.refl L580_
     have hhh61_ := Le.refl H58_
     refine W_region [105, 106, 107, 108, 109, 110, 111, 112, 113, 114, 115, 116, 117, 118, 119, 120, 121, 122, 123] rfl (Ops_step (R_move rfl) rfl rfl (Ops_step (R_gtr rfl rfl) rfl rfl (Ops_step (R_move rfl) rfl rfl ?_)))
     refine Ops_split 107 rfl (fun hg62_ => ?_) (fun hg62_ => ?_)
     ·
      replace h := h.1 hg62_
      refine Ops_step (R_move rfl) rfl rfl (Ops_step (R_move rfl) rfl rfl (Ops_step (R_nilCheck rfl) rfl rfl (Ops_step (R_fieldAddr fo73_2 rfl) rfl rfl ?_)))
      refine Ops_step (R_loadB (v := vi yb3__4.Gen_) ag3 rfl htb3__4.blk rfl) rfl rfl ?_
      refine Ops_step (R_eql rfl rfl) rfl rfl (Ops_step (R_pick_true rfl rfl) rfl rfl (Ops_step (R_move rfl) rfl rfl ?_))
      refine Ops_split 115 rfl (fun hg63_ => ?_) (fun hg63_ => ?_)
      ·
       replace h := h.1 hg63_
       refine Ops_step (R_move rfl) rfl rfl (Ops_step (R_move rfl) rfl rfl (Ops_step (R_nilCheck rfl) rfl rfl (Ops_step (R_fieldAddr fo73_0 rfl) rfl rfl ?_)))
       refine Ops_step (R_loadB (v := .slice Ab3__4_1 yb3__4.L_.length cb3__4_1) ag36 rfl htb3__4.blk rfl) rfl rfl ?_
       refine Ops_step (R_len Try.underlying36 rfl rfl) rfl rfl (Ops_step (R_eql rfl rfl) rfl rfl (Ops_step (R_pick_true rfl rfl) rfl rfl ?_))
       refine Ops_nil ?_
       refine then_n ?_
       exact ⟨_, rfl, ⟨(decide (r58_1 = (yb3__4.L_.length : Int))), _, _, rfl, h, hI, hll61_, hhh61_, htd0, htb3__4, trivial⟩, ⟨rfl, rfl, rfl, rfl, rfl, rfl, trivial⟩⟩
      ·
       replace h := h.2 hg63_
       refine Ops_pass rfl rfl (Ops_pass rfl rfl (Ops_pass rfl rfl (Ops_pass rfl rfl (Ops_pass rfl rfl ?_))))
       refine Ops_pass rfl rfl (Ops_pass rfl rfl (Ops_step (R_pick_false rfl rfl) rfl rfl ?_))
       refine Ops_nil ?_
       refine then_n ?_
       exact ⟨_, rfl, ⟨false, _, _, rfl, h, hI, hll61_, hhh61_, htd0, htb3__4, trivial⟩, ⟨rfl, rfl, rfl, rfl, rfl, rfl, trivial⟩⟩
     ·
      replace h := h.2 hg62_
      refine Ops_pass rfl rfl (Ops_pass rfl rfl (Ops_pass rfl rfl (Ops_pass rfl rfl (Ops_pass rfl rfl ?_))))
      refine Ops_pass rfl rfl (Ops_step (R_pick_false rfl rfl) rfl rfl (Ops_step (R_move rfl) rfl rfl (Ops_pass rfl rfl (Ops_pass rfl rfl ?_))))
      refine Ops_pass rfl rfl (Ops_pass rfl rfl (Ops_pass rfl rfl (Ops_pass rfl rfl (Ops_pass rfl rfl ?_))))
      refine Ops_step (R_pick_false rfl rfl) rfl rfl ?_
      refine Ops_nil ?_
      refine then_n ?_
      exact ⟨_, rfl, ⟨false, _, _, rfl, h, hI, hll61_, hhh61_, htd0, htb3__4, trivial⟩, ⟨rfl, rfl, rfl, rfl, rfl, rfl, trivial⟩⟩
    ·
     simp only [e_, Nat.reduceAdd, Nat.reduceBEq] at b_
     subst b_
     clear h
     clear htb3__4
     clear htd0
     rintro _ w61_ ⟨x123_61, L61_, H61_, rfl, hJ61_, hI61_, hll61_, hhh61_, htd0, htb3__4, -⟩
     replace hI := hI61_
     clear hI61_
     have h := hr61_ x123_61 hJ61_
     clear hr61_ hJ61_
     replace hsd0_1 := hsd0_1.up hhh61_
     replace hsd0_2 := hsd0_2.up hhh61_
     replace hsd0_3 := hsd0_3.up hhh61_
     replace hsb3__4_1 := hsb3__4_1.up hhh61_
     replace hs46_0 := hs46_0.up hhh61_
     replace hs55_ := hs55_.up hll61_
     replace hll60_ := hll60_.trans hll61_
     replace hhh60_ := hhh60_.trans hhh61_
     refine W_cond rfl (fun hc64_ => ?_) (fun hc64_ => ?_)
     ·
      replace h := h.1 hc64_
      refine W_seq_k fun K65 k65 => ?_
      refine W_region [124, 125, 126, 127, 20] rfl (Ops_step (R_move rfl) rfl rfl ?_)
      have hk67_ := h.1
      replace h := h.2
      refine Exists.elim (cut_ex (n := 1) (l := 1) (h := (r54_0.length : Int)) (hs55_.up hI.sub) rfl (by decide) hc55_ (by decide) hk67_ (Int.le_refl _)) fun A66_ h66_ => Exists.elim h66_ fun c66_ h66_ => ?_
      have hr66_ := h66_.1
      have hc66_ := h66_.2.1
      have hs66_ := h66_.2.2
      clear h66_
      refine Ops_step (X_slice (xs := r54_0) Try.underlying67 sz29 rfl hr66_ hc55_ rfl rfl (by decide) hk67_ (Int.le_refl _)) rfl rfl ?_
      clear hr66_
      refine Ops_step (R_move rfl) rfl rfl ?_
      refine Ops_call (C_func bd58 rfl) rfl rfl ?_
      refine (sealskinref06_rest_ok (x0 := (cut r54_0 1 (r54_0.length : Int))) (x1 := r58_1) hI.st (hg.up hI.le) hc66_ hs66_ h).mono ?_
      rintro _ w68_ ⟨A68_0, c68_0, r68_0, L68_, H68_, rfl, hI68_, ho68_0, h⟩
      refine Exists.elim (hI.call hI68_ (by simp)) fun L680_ h68_ => ?_
      have hz68_ := hI.size
      replace hI := h68_.1
      have u68_ := h68_.2.1
      have hl68_ := h68_.2.2
      clear h68_
      replace hsd0_1 := hsd0_1.up u68_.hh
      replace hsd0_2 := hsd0_2.up u68_.hh
      replace hsd0_3 := hsd0_3.up u68_.hh
      replace hsb3__4_1 := hsb3__4_1.up u68_.hh
      replace hs46_0 := hs46_0.up u68_.hh
      replace hs55_ := hs55_.up u68_.ll
      replace hll60_ := hll60_.trans u68_.ll
      replace hhh60_ := hhh60_.trans u68_.hh
      replace htd0 := htd0.up u68_ (by simp)
      replace htb3__4 := htb3__4.up u68_ (by simp)
      replace ho68_0 := OwnS.back ho68_0 hz68_ hl68_ (Le.refl _)
      clear hI68_ u68_ hl68_
      refine ⟨_, rfl, ?_⟩
      refine Exists.elim (ho68_0.freeze hI) fun L69_ h69_ => Exists.elim h69_ fun H69_ h69_ => ?_
      replace hI := h69_.1
      have u69_ := h69_.2.1
      have hs69_ := h69_.2.2.1 (Le.refl _)
      have hc69_ := ho68_0.cap
      replace hsd0_1 := hsd0_1.up u69_.hh
      replace hsd0_2 := hsd0_2.up u69_.hh
      replace hsd0_3 := hsd0_3.up u69_.hh
      replace hsb3__4_1 := hsb3__4_1.up u69_.hh
      replace hs46_0 := hs46_0.up u69_.hh
      replace hs55_ := hs55_.up u69_.ll
      replace hll60_ := hll60_.trans u69_.ll
      replace hhh60_ := hhh60_.trans u69_.hh
      replace htd0 := htd0.up u69_ (ho68_0.old hlt_d0)
      replace htb3__4 := htb3__4.up u69_ (htb3__4.sep ho68_0 (by decide))
      clear h69_ u69_ ho68_0
      refine Ops_step (R_assign rfl) rfl rfl ?_
      refine Ops_nil ?_
      refine then_n (k65 _ _ ?_)
      clear k65 K65
      refine W_keepB [4, 13, 15, 16, 20] fun B_ b_ => ?_
      simp only [e_, Nat.reduceAdd, Nat.reduceBEq] at b_
      subst b_
      refine ex_ h fun J71_ hr71_ h => ?_
      refine W_seq_join [4, 20] [19] (fun vals_ w2 => ∃ (x19_71 : Bool) (L H : Gh), vals_ = [.bool x19_71] ∧ J71_ x19_71 ∧ Inv [d0] G w L H w2 ∧ Le L69_ L ∧ Le H69_ H ∧ Tok H w2 d0 81 ([.slice Ad0_1 z0.F_.e0_.length cd0_1, .slice Ad0_2 z0.F_.e1_.length cd0_2, .slice Ad0_3 z0.F_.e2_.length cd0_3, vi z0.Room_, .bool z0.Off_, vi z0.Fuse_]) ∧ Tok H w2 b3_ 73 ([.slice Ab3__4_1 yb3__4.L_.length cb3__4_1, .pointer (some ⟨d0, 0, none⟩), vi yb3__4.Gen_, vi yb3__4.File_]) ∧ True) (fun B_ b_ => ?_) (fun B_ b_ => ?_)
      ·
       simp only [e_, Nat.reduceAdd, Nat.reduceBEq] at b_
       subst b_
       clear hr71_
       have hll71_ := Le.refl L69_
       have hhh71_ := Le.refl H69_
       refine W_region [128, 129, 130, 131, 132, 133, 134, 135, 136, 137, 138, 139, 19] rfl (Ops_step (R_move rfl) rfl rfl (Ops_step (R_move rfl) rfl rfl (Ops_step (R_len Try.underlying29 rfl rfl) rfl rfl (Ops_step (R_eql rfl rfl) rfl rfl ?_))))
       refine Ops_step (R_move rfl) rfl rfl ?_
       refine Ops_split 132 rfl (fun hg72_ => ?_) (fun hg72_ => ?_)
       ·
        replace h := h.1 hg72_
        refine Ops_step (R_move rfl) rfl rfl (Ops_step (R_len Try.underlying36 rfl rfl) rfl rfl (Ops_step (R_move rfl) rfl rfl (Ops_step (R_len Try.underlying67 rfl rfl) rfl rfl ?_)))
        have hk73_ := h.1
        replace h := h.2
        refine Ops_step (R_sub rfl rfl (wI hk73_.1 hk73_.2)) rfl rfl (Ops_step (R_eql rfl rfl) rfl rfl (Ops_step (R_pick_true rfl rfl) rfl rfl (Ops_step (R_assign rfl) rfl rfl ?_)))
        refine Ops_nil ?_
        refine then_n ?_
        exact ⟨_, rfl, ⟨(decide ((r68_0.length : Int) = ((r54_0.length : Int) - 1))), _, _, rfl, h, hI, hll71_, hhh71_, htd0, htb3__4, trivial⟩, ⟨rfl, rfl, trivial⟩⟩
       ·
        replace h := h.2 hg72_
        refine Ops_pass rfl rfl (Ops_pass rfl rfl (Ops_pass rfl rfl (Ops_pass rfl rfl (Ops_pass rfl rfl ?_))))
        refine Ops_pass rfl rfl (Ops_step (R_pick_false rfl rfl) rfl rfl (Ops_step (R_assign rfl) rfl rfl ?_))
        refine Ops_nil ?_
        refine then_n ?_
        exact ⟨_, rfl, ⟨false, _, _, rfl, h, hI, hll71_, hhh71_, htd0, htb3__4, trivial⟩, ⟨rfl, rfl, trivial⟩⟩
      ·
       simp only [e_, Nat.reduceAdd, Nat.reduceBEq] at b_
       subst b_
       clear h
       clear htb3__4
       clear htd0
       rintro _ w71_ ⟨x19_71, L71_, H71_, rfl, hJ71_, hI71_, hll71_, hhh71_, htd0, htb3__4, -⟩
       replace hI := hI71_
       clear hI71_
       have h := hr71_ x19_71 hJ71_
       clear hr71_ hJ71_
       replace hsd0_1 := hsd0_1.up hhh71_
       replace hsd0_2 := hsd0_2.up hhh71_
       replace hsd0_3 := hsd0_3.up hhh71_
       replace hsb3__4_1 := hsb3__4_1.up hhh71_
       replace hll60_ := hll60_.trans hll71_
       replace hhh60_ := hhh60_.trans hhh71_
       replace hs69_ := hs69_.up hll71_
       refine W_region [140, 141, 142, 143, 144, 145, 146, 147, 148, 149, 150, none] rfl (Ops_step (R_move rfl) rfl rfl ?_)
       refine Ops_to (R_buildSlice0 el36) rfl rfl ?_
       rintro _ w74_ ⟨b74_, rfl, hb74_, hB74_, hF74_⟩
       have ho74_ : OwnS w.heap.size 39 L71_ H71_ _ (some ⟨b74_, 0, none⟩) 0 ([] : List sealskinref06_Record) := OwnS.ofBlk (css := []) hI.st hb74_ hB74_ .nil rfl (by have := hI.size; omega) (by show 0 ≤ maxLen; decide)
       replace hI := hI.fr0 hF74_
       replace htd0 := htd0.fr0 hF74_
       replace htb3__4 := htb3__4.fr0 hF74_
       clear hF74_ hB74_
       refine Ops_step (R_move rfl) rfl rfl (Ops_step (R_nilCheck rfl) rfl rfl (Ops_step (R_fieldAddr fo73_0 rfl) rfl rfl ?_))
       refine Ops_step (R_loadB (v := .slice Ab3__4_1 yb3__4.L_.length cb3__4_1) ag36 rfl htb3__4.blk rfl) rfl rfl ?_
       have hk76_ := h.1
       replace h := h.2
       refine Ops_to (X_append (α := sealskinref06_Record) (xs := ([] : List sealskinref06_Record)) (ys := yb3__4.L_) el36 rfl rfl (ho74_.hl hI.sub) (Srcs.ofSl Try.underlying36 hsb3__4_1 hI.st (by decide)) hI.st hk76_ (by decide) hI.size) rfl rfl ?_
       rintro _ w75_ ⟨A75_, c75_, rfl, ho75_, hF75_, hbk75_⟩
       clear hbk75_
       replace hI := hI.tok hF75_ ho74_.out (ho74_.new (Nat.le_refl _))
       replace htd0 := htd0.fr hF75_ (ho74_.old hlt_d0)
       replace htb3__4 := htb3__4.fr hF75_ (htb3__4.sep ho74_ (by decide))
       clear hF75_ ho74_
       refine Ops_step (R_move rfl) rfl rfl ?_
       have hk78_ := h.1
       replace h := h.2
       refine Ops_to (X_append (α := sealskinref06_Record) (xs := (([] : List sealskinref06_Record) ++ yb3__4.L_)) (ys := r68_0) el36 rfl rfl ho75_ (Srcs.ofSl Try.underlying36 (hs69_.up hI.sub) hI.st (by decide)) hI.st hk78_ (by decide) hI.size) rfl rfl ?_
       rintro _ w77_ ⟨A77_, c77_, rfl, ho77_, hF77_, hbk77_⟩
       clear hbk77_
       replace hI := hI.tok hF77_ ho75_.out (ho75_.new (Nat.le_refl _))
       replace htd0 := htd0.fr hF77_ (ho75_.old hlt_d0)
       replace htb3__4 := htb3__4.fr hF77_ (htb3__4.sep ho75_ (by decide))
       clear hF77_ ho75_
       refine Ops_step (R_nilCheck rfl) rfl rfl (Ops_step (R_fieldAddr fo73_0 rfl) rfl rfl ?_)
       refine Exists.elim (ho77_.freeze hI) fun L80_ h80_ => Exists.elim h80_ fun H80_ h80_ => ?_
       replace hI := h80_.1
       have u80_ := h80_.2.1
       have hs80_ := h80_.2.2.2 (Le.refl _)
       have hc80_ := ho77_.cap
       replace hsd0_1 := hsd0_1.up u80_.hh
       replace hsd0_2 := hsd0_2.up u80_.hh
       replace hsd0_3 := hsd0_3.up u80_.hh
       replace hsb3__4_1 := hsb3__4_1.up u80_.hh
       replace hll60_ := hll60_.trans u80_.ll
       replace hhh60_ := hhh60_.trans u80_.hh
       replace htd0 := htd0.up u80_ (ho77_.old hlt_d0)
       replace htb3__4 := htb3__4.up u80_ (htb3__4.sep ho77_ (by decide))
       clear h80_ u80_ ho77_
       refine Ops_to0 (R_store sz36 rfl rfl htb3__4.blk (by show 0 < 4; decide) rfl) rfl ?_
       rintro _ w79_ ⟨hB79_, hF79_⟩
       replace hI := hI.tok hF79_ (out1 htb3__4.out) (new1 hge_b3_)
       replace htd0 := htd0.fr hF79_ (htd0.apart htb3__4 (by decide))
       replace htb3__4 : Tok H80_ _ b3_ 73 ([.slice A77_ (((([] : List sealskinref06_Record) ++ yb3__4.L_) ++ r68_0).length) c77_, .pointer (some ⟨d0, 0, none⟩), vi yb3__4.Gen_, vi yb3__4.File_]) := ⟨hB79_, htb3__4.out⟩
       clear hF79_ hB79_
       refine Ops_nil ?_
       refine then_n ?_
       exact ⟨_, rfl, ⟨x19_71, (sealskinref06_Journal.mk ((([] : List sealskinref06_Record) ++ yb3__4.L_) ++ r68_0) yb3__4.Gen_ yb3__4.File_), A77_, c77_, _, _, rfl, h, hI, hll60_, hhh60_, htb3__4, hc80_, hs80_, htd0, trivial⟩, ⟨rfl, trivial⟩⟩
     ·
      replace h := h.2 hc64_
      refine W_skip ?_
      refine then_n ?_
      exact ⟨_, rfl, ⟨false, yb3__4, Ab3__4_1, cb3__4_1, _, _, rfl, h, hI, hll60_, hhh60_, htb3__4, hcb3__4_1, hsb3__4_1, htd0, trivial⟩, ⟨rfl, trivial⟩⟩
   ·
    simp only [e_, Nat.reduceAdd, Nat.reduceBEq] at b_
    subst b_
    clear h
    clear htd0
    rintro _ w60_ ⟨x19_60, yb3__60, Ab3__60_1, cb3__60_1, L60_, H60_, rfl, hJ60_, hI60_, hll60_, hhh60_, htb3__60, hcb3__60_1, hsb3__60_1, htd0, -⟩
    replace hI := hI60_
    clear hI60_
    have h := hr60_ x19_60 yb3__60 hJ60_
    clear hr60_ hJ60_
    replace hsd0_1 := hsd0_1.up hhh60_
    replace hsd0_2 := hsd0_2.up hhh60_
    replace hsd0_3 := hsd0_3.up hhh60_
    refine ex_ h fun J81_ hr81_ h => ?_
    refine W_seq_join [4] [] (fun vals_ w2 => ∃ (yd0_81 : sealskinref05_Disk) (Ad0_81_1 : Option Addr) (cd0_81_1 : Nat) (Ad0_81_2 : Option Addr) (cd0_81_2 : Nat) (Ad0_81_3 : Option Addr) (cd0_81_3 : Nat) (yb3__81 : sealskinref06_Journal) (Ab3__81_1 : Option Addr) (cb3__81_1 : Nat) (L H : Gh), vals_ = [] ∧ J81_ yd0_81 yb3__81 ∧ Inv [d0] G w L H w2 ∧ Le L60_ L ∧ Le H60_ H ∧ Tok H w2 d0 81 ([.slice Ad0_81_1 yd0_81.F_.e0_.length cd0_81_1, .slice Ad0_81_2 yd0_81.F_.e1_.length cd0_81_2, .slice Ad0_81_3 yd0_81.F_.e2_.length cd0_81_3, vi yd0_81.Room_, .bool yd0_81.Off_, vi yd0_81.Fuse_]) ∧ yd0_81.F_.e0_.length ≤ cd0_81_1 ∧ Sl H Ad0_81_1 yd0_81.F_.e0_ ∧ yd0_81.F_.e1_.length ≤ cd0_81_2 ∧ Sl H Ad0_81_2 yd0_81.F_.e1_ ∧ yd0_81.F_.e2_.length ≤ cd0_81_3 ∧ Sl H Ad0_81_3 yd0_81.F_.e2_ ∧ Tok H w2 b3_ 73 ([.slice Ab3__81_1 yb3__81.L_.length cb3__81_1, .pointer (some ⟨d0, 0, none⟩), vi yb3__81.Gen_, vi yb3__81.File_]) ∧ yb3__81.L_.length ≤ cb3__81_1 ∧ Sl H Ab3__81_1 yb3__81.L_ ∧ True) (fun B_ b_ => ?_) (fun B_ b_ => ?_)
    ·
     simp only [e_, Nat.reduceAdd, Nat.reduceBEq] at b_
     subst b_
     clear hr81_
     have hll81_ := Le.refl L60_
     have hhh81_ := Le.refl H60_
     refine W_seq_k fun K82 k82 => ?_
     refine W_region [151, 152] rfl (Ops_step (R_move rfl) rfl rfl (Ops_step (R_not rfl) rfl rfl ?_))
     refine Ops_nil ?_
     refine then_n (k82 _ _ ?_)
     clear k82 K82
     refine W_cond rfl (fun hc83_ => ?_) (fun hc83_ => ?_)
     ·
      replace h := h.1 hc83_
      refine W_seq_k fun K84 k84 => ?_
      refine W_region [153, 154, 21] rfl (Ops_step (R_move rfl) rfl rfl ?_)
      refine Ops_call (C_func bd33 rfl) rfl rfl ?_
      refine (sealskinref06_Journal_Check_ok (z0 := yb3__60) (z1 := z0) hI.st (hg.up hI.le) htd0 hcd0_1 hsd0_1 hcd0_2 hsd0_2 hcd0_3 hsd0_3 htb3__60 hcb3__60_1 hsb3__60_1 h).mono ?_
      rintro _ w85_ ⟨r85_0, y85_o0, A85_o0_1, c85_o0_1, y85_o1, A85_o1_1, c85_o1_1, A85_o1_2, c85_o1_2, A85_o1_3, c85_o1_3, L85_, H85_, rfl, hI85_, ht85_o0, hc85_o0_1, hs85_o0_1, ht85_o1, hc85_o1_1, hs85_o1_1, hc85_o1_2, hs85_o1_2, hc85_o1_3, hs85_o1_3, h⟩
      refine Exists.elim (hI.call hI85_ (memG hge_b3_ (memO (by simp) memN))) fun L850_ h85_ => ?_
      have hz85_ := hI.size
      replace hI := h85_.1
      have u85_ := h85_.2.1
      have hl85_ := h85_.2.2
      clear h85_
      replace hsd0_1 := hsd0_1.up u85_.hh
      replace hsd0_2 := hsd0_2.up u85_.hh
      replace hsd0_3 := hsd0_3.up u85_.hh
      replace hsb3__60_1 := hsb3__60_1.up u85_.hh
      replace hll81_ := hll81_.trans u85_.ll
      replace hhh81_ := hhh81_.trans u85_.hh
      clear htb3__60
      clear htd0
      clear hI85_ u85_ hl85_
      refine ⟨_, rfl, ?_⟩
      refine Ops_step (R_assign rfl) rfl rfl ?_
      refine Ops_nil ?_
      refine then_n (k84 _ _ ?_)
      clear k84 K84
      refine W_seq_k fun K86 k86 => ?_
      refine W_region [155, 156] rfl (Ops_step (R_move rfl) rfl rfl (Ops_step (R_neq rfl rfl) rfl rfl ?_))
      refine Ops_nil ?_
      refine then_n (k86 _ _ ?_)
      clear k86 K86
      refine W_keepB [4, 21, 156] fun B_ b_ => ?_
      simp only [e_, Nat.reduceAdd, Nat.reduceBEq] at b_
      subst b_
      refine W_if rfl (fun hc88_ => ?_) (fun hc88_ => ?_)
      ·
       replace h := h.1 hc88_
       refine W_seq_k fun K89 k89 => ?_
       refine W_region [157, 2, 3] rfl (Ops_step (R_move rfl) rfl rfl (Ops_step (R_assign rfl) rfl rfl (Ops_step (R_assign rfl) rfl rfl ?_)))
       refine Ops_nil ?_
       refine then_n (k89 _ _ ?_)
       clear k89 K89
       refine W_ret ?_
       refine then_ret ?_
       refine ⟨_, ⟨_, _, rfl, rfl, ⟨_, _, rfl, rfl, rfl⟩⟩, ?_⟩
       exact .inl ⟨r85_0, y85_o1, A85_o1_1, c85_o1_1, A85_o1_2, c85_o1_2, A85_o1_3, c85_o1_3, _, _, rfl, hI, ht85_o1, hc85_o1_1, hs85_o1_1, hc85_o1_2, hs85_o1_2, hc85_o1_3, hs85_o1_3, h⟩
      ·
       replace h := h.2 hc88_
       refine W_skip ?_
       refine then_n ?_
       exact ⟨_, rfl, ⟨y85_o1, A85_o1_1, c85_o1_1, A85_o1_2, c85_o1_2, A85_o1_3, c85_o1_3, y85_o0, A85_o0_1, c85_o0_1, _, _, rfl, h, hI, hll81_, hhh81_, ht85_o1, hc85_o1_1, hs85_o1_1, hc85_o1_2, hs85_o1_2, hc85_o1_3, hs85_o1_3, ht85_o0, hc85_o0_1, hs85_o0_1, trivial⟩, ⟨rfl, trivial⟩⟩
     ·
      replace h := h.2 hc83_
      refine W_skip ?_
      refine then_n ?_
      exact ⟨_, rfl, ⟨z0, Ad0_1, cd0_1, Ad0_2, cd0_2, Ad0_3, cd0_3, yb3__60, Ab3__60_1, cb3__60_1, _, _, rfl, h, hI, hll81_, hhh81_, htd0, hcd0_1, hsd0_1, hcd0_2, hsd0_2, hcd0_3, hsd0_3, htb3__60, hcb3__60_1, hsb3__60_1, trivial⟩, ⟨rfl, trivial⟩⟩
    ·
     simp only [e_, Nat.reduceAdd, Nat.reduceBEq] at b_
     subst b_
     clear h
     rintro _ w81_ ⟨yd0_81, Ad0_81_1, cd0_81_1, Ad0_81_2, cd0_81_2, Ad0_81_3, cd0_81_3, yb3__81, Ab3__81_1, cb3__81_1, L81_, H81_, rfl, hJ81_, hI81_, hll81_, hhh81_, htd0_81, hcd0_81_1, hsd0_81_1, hcd0_81_2, hsd0_81_2, hcd0_81_3, hsd0_81_3, htb3__81, hcb3__81_1, hsb3__81_1, -⟩
     replace hI := hI81_
     clear hI81_
     have h := hr81_ yd0_81 yb3__81 hJ81_
     clear hr81_ hJ81_
     refine W_seq_k fun K90 k90 => ?_
     refine W_region [158, 2, 3] rfl (Ops_step (R_move rfl) rfl rfl (Ops_step (R_assign rfl) rfl rfl (Ops_step (R_assign rfl) rfl rfl ?_)))
     refine Ops_nil ?_
     refine then_n (k90 _ _ ?_)
     clear k90 K90
     refine W_ret ?_
     refine ⟨_, ⟨_, _, rfl, rfl, ⟨_, _, rfl, rfl, rfl⟩⟩, ?_⟩
     exact .inr ⟨0, yd0_81, Ad0_81_1, cd0_81_1, Ad0_81_2, cd0_81_2, Ad0_81_3, cd0_81_3, b3_, yb3__81, Ab3__81_1, cb3__81_1, _, _, rfl, hI, htd0_81, hcd0_81_1, hsd0_81_1, hcd0_81_2, hsd0_81_2, hcd0_81_3, hsd0_81_3, hge_b3_, htb3__81, hcb3__81_1, hsb3__81_1, h⟩

theorem bytes_Equal_ok {G : Gh} {w : World} (hS : St G w) (hg : GL G) {A0 : Option Addr} {c0 : Nat} {x0 : List UInt8} (hc0 : x0.length ≤ c0) (hs0 : Sl G A0 x0) {A1 : Option Addr} {c1 : Nat} {x1 : List UInt8} (hc1 : x1.length ≤ c1) (hs1 : Sl G A1 x1) {Q : Bool → Prop} (h : bytes_Equal x0 x1 Q) : Calls Try.prog 59 #[.slice A0 x0.length c0, .slice A1 x1.length c1] w fun e w2 => ∃ (r0 : Bool) (L H : Gh), e = .returned (.bool r0) ∧ Inv [] G w L H w2 ∧ Q r0 := by
 unfold bytes_Equal at h
 have hI := Inv.start (M := []) hS
 refine calls_W 10 Try.func59 rfl Try.ntmps59 rfl [.tmp 4] rfl ?_
 refine W_seq_k fun K1 k1 => ?_
 refine W_region [4] rfl (Ops_step (R_assign rfl) rfl rfl ?_)
 refine Ops_nil ?_
 refine then_n (k1 _ _ ?_)
 clear k1 K1
 refine W_seq_k fun K2 k2 => ?_
 refine W_region [5, 6, 7, 8, 9, 4] rfl (Ops_step (R_move rfl) rfl rfl ?_)
 refine Ops_step (X_bytesStr (bs := x0) Try.underlying29 Try.underlying5 Try.underlying9 rfl rfl (hs0.fz.rd hI.st)) rfl rfl ?_
 refine Ops_step (R_move rfl) rfl rfl ?_
 refine Ops_step (X_bytesStr (bs := x1) Try.underlying29 Try.underlying5 Try.underlying9 rfl rfl (hs1.fz.rd hI.st)) rfl rfl ?_
 refine Ops_step (R_strEqB rfl rfl) rfl rfl (Ops_step (R_assign rfl) rfl rfl ?_)
 refine Ops_nil ?_
 refine then_n (k2 _ _ ?_)
 clear k2 K2
 refine W_keepB [4] fun B_ b_ => ?_
 simp only [e_, Nat.reduceAdd, Nat.reduceBEq] at b_
 subst b_
 refine W_ret ?_
 refine ⟨_, ⟨_, _, rfl, rfl, rfl⟩, ?_⟩
 exact ⟨(decide ((Str.mk x0).b = (Str.mk x1).b)), _, _, rfl, hI, h⟩

theorem sealskinlaw06_face_ok {G : Gh} {w : World} (hS : St G w) (hg : GL G) {d0 : Nat} {z0 : disk_Disk} {Ad0_1 : Option Addr} {cd0_1 : Nat} {Ad0_2 : Option Addr} {cd0_2 : Nat} {Ad0_3 : Option Addr} {cd0_3 : Nat} (htd0 : Tok G w d0 53 ([.slice Ad0_1 z0.files_.e0_.length cd0_1, .slice Ad0_2 z0.files_.e1_.length cd0_2, .slice Ad0_3 z0.files_.e2_.length cd0_3, vi z0.room_, .bool z0.off_, .bool z0.armed_, vi z0.left_])) (hcd0_1 : z0.files_.e0_.length ≤ cd0_1) (hsd0_1 : Sl G Ad0_1 z0.files_.e0_) (hcd0_2 : z0.files_.e1_.length ≤ cd0_2) (hsd0_2 : Sl G Ad0_2 z0.files_.e1_) (hcd0_3 : z0.files_.e2_.length ≤ cd0_3) (hsd0_3 : Sl G Ad0_3 z0.files_.e2_) {d1 : Nat} {z1 : sealskinref05_Disk} {Ad1_1 : Option Addr} {cd1_1 : Nat} {Ad1_2 : Option Addr} {cd1_2 : Nat} {Ad1_3 : Option Addr} {cd1_3 : Nat} (htd1 : Tok G w d1 81 ([.slice Ad1_1 z1.F_.e0_.length cd1_1, .slice Ad1_2 z1.F_.e1_.length cd1_2, .slice Ad1_3 z1.F_.e2_.length cd1_3, vi z1.Room_, .bool z1.Off_, vi z1.Fuse_])) (hcd1_1 : z1.F_.e0_.length ≤ cd1_1) (hsd1_1 : Sl G Ad1_1 z1.F_.e0_) (hcd1_2 : z1.F_.e1_.length ≤ cd1_2) (hsd1_2 : Sl G Ad1_2 z1.F_.e1_) (hcd1_3 : z1.F_.e2_.length ≤ cd1_3) (hsd1_3 : Sl G Ad1_3 z1.F_.e2_) {Q : Bool → Prop} (h : sealskinlaw06_face z0 z1 Q) : Calls Try.prog 29 #[.pointer (some ⟨d0, 0, none⟩), .pointer (some ⟨d1, 0, none⟩)] w fun e w2 => ∃ (r0 : Bool) (L H : Gh), e = .returned (.bool r0) ∧ Inv [] G w L H w2 ∧ Q r0 := by
 unfold sealskinlaw06_face at h
 have hI := Inv.start (M := []) hS
 refine calls_W 35 Try.func29 rfl Try.ntmps29 rfl [.tmp 4] rfl ?_
 have hlt_d0 := htd0.blk.lt
 have hlt_d1 := htd1.blk.lt
 refine W_seq_k fun K1 k1 => ?_
 refine W_region [4] rfl (Ops_step (R_assign rfl) rfl rfl ?_)
 refine Ops_nil ?_
 refine then_n (k1 _ _ ?_)
 clear k1 K1
 refine ex_ h fun J2_ hr2_ h => ?_
 refine W_seq_join [] [] (fun vals_ w2 => ∃  (L H : Gh), vals_ = [] ∧ J2_ ∧ Inv [] G w L H w2 ∧ Le Gh.no L ∧ Le G H ∧ Tok H w2 d0 53 ([.slice Ad0_1 z0.files_.e0_.length cd0_1, .slice Ad0_2 z0.files_.e1_.length cd0_2, .slice Ad0_3 z0.files_.e2_.length cd0_3, vi z0.room_, .bool z0.off_, .bool z0.armed_, vi z0.left_]) ∧ Tok H w2 d1 81 ([.slice Ad1_1 z1.F_.e0_.length cd1_1, .slice Ad1_2 z1.F_.e1_.length cd1_2, .slice Ad1_3 z1.F_.e2_.length cd1_3, vi z1.Room_, .bool z1.Off_, vi z1.Fuse_]) ∧ True) (fun B_ b_ => ?_) (fun B_ b_ => ?_)
 ·
  simp only [e_, Nat.reduceAdd, Nat.reduceBEq] at b_
  subst b_
  clear hr2_
  have hll2_ := Le.refl Gh.no
  have hhh2_ := Le.refl G
  refine W_seq_k fun K3 k3 => ?_
  refine W_region [10] rfl (Ops_step (R_move rfl) rfl rfl ?_)
  refine Ops_nil ?_
  refine then_n (k3 _ _ ?_)
  clear k3 K3
  refine W_block ?_
  refine Exists.elim h fun I4_ h => Exists.elim h fun n4_ h => ?_
  have h0_ := h.1
  have hs4_ := h.2
  clear h
  refine W_loopB [0, 1] [10] (fun m vals_ w2 => ∃ (x10_4 : Int) (L H : Gh), vals_ = [vi x10_4] ∧ I4_ m x10_4 ∧ Inv [] G w L H w2 ∧ Le Gh.no L ∧ Le G H ∧ Tok H w2 d0 53 ([.slice Ad0_1 z0.files_.e0_.length cd0_1, .slice Ad0_2 z0.files_.e1_.length cd0_2, .slice Ad0_3 z0.files_.e2_.length cd0_3, vi z0.room_, .bool z0.off_, .bool z0.armed_, vi z0.left_]) ∧ Tok H w2 d1 81 ([.slice Ad1_1 z1.F_.e0_.length cd1_1, .slice Ad1_2 z1.F_.e1_.length cd1_2, .slice Ad1_3 z1.F_.e2_.length cd1_3, vi z1.Room_, .bool z1.Off_, vi z1.Fuse_]) ∧ True) n4_ _ rfl ⟨0, _, _, rfl, h0_, hI, Le.refl _, Le.refl _, htd0, htd1, trivial⟩ fun B_ b_ => ?_
  clear h0_
  simp only [e_, Nat.reduceAdd, Nat.reduceBEq] at b_
  subst b_
  clear htd0
  clear htd1
  rintro m4_ _ w4_ ⟨x10_4, L4_, H4_, rfl, hJ4_, hI4_, hll4_, hhh4_, htd0, htd1, -⟩
  replace hI := hI4_
  clear hI4_
  have h := hs4_ m4_ x10_4 hJ4_
  clear hs4_ hJ4_
  replace hsd0_1 := hsd0_1.up hhh4_
  replace hsd0_2 := hsd0_2.up hhh4_
  replace hsd0_3 := hsd0_3.up hhh4_
  replace hsd1_1 := hsd1_1.up hhh4_
  replace hsd1_2 := hsd1_2.up hhh4_
  replace hsd1_3 := hsd1_3.up hhh4_
  replace hll2_ := hll2_.trans hll4_
  replace hhh2_ := hhh2_.trans hhh4_
  refine W_seq_k fun K5 k5 => ?_
  refine W_region [11] rfl (Ops_step (R_lss rfl rfl) rfl rfl ?_)
  refine Ops_nil ?_
  refine then_n (k5 _ _ ?_)
  clear k5 K5
  refine W_seq_k fun K6 k6 => ?_
  refine W_if rfl (fun hc7_ => ?_) (fun hc7_ => ?_)
  ·
   replace h := h.1 hc7_
   refine W_skip ?_
   refine then_n (k6 _ _ ?_)
   clear k6 K6
   refine W_seq_k fun K8 k8 => ?_
   refine W_block ?_
   refine W_seq_k fun K9 k9 => ?_
   refine W_region [12, 5] rfl (Ops_step (R_move rfl) rfl rfl (Ops_step (R_assign rfl) rfl rfl ?_))
   refine Ops_nil ?_
   refine then_n (k9 _ _ ?_)
   clear k9 K9
   refine W_seq_k fun K10 k10 => ?_
   refine W_region [14, 15, 16, 13, 17, 18, 6, 7] rfl (Ops_step (R_move rfl) rfl rfl (Ops_step (R_move rfl) rfl rfl ?_))
   refine Ops_call (C_func bd44 rfl) rfl rfl ?_
   refine (disk_Disk_Read_ok (x1 := x10_4) (z0 := z0) hI.st (hg.up hI.le) htd0 hcd0_1 hsd0_1 hcd0_2 hsd0_2 hcd0_3 hsd0_3 h).mono ?_
   rintro _ w11_ ⟨A11_0, c11_0, r11_0, r11_1, L11_, H11_, rfl, hI11_, ho11_0, h⟩
   refine Exists.elim (hI.call hI11_ (by simp)) fun L110_ h11_ => ?_
   have hz11_ := hI.size
   replace hI := h11_.1
   have u11_ := h11_.2.1
   have hl11_ := h11_.2.2
   clear h11_
   replace hsd0_1 := hsd0_1.up u11_.hh
   replace hsd0_2 := hsd0_2.up u11_.hh
   replace hsd0_3 := hsd0_3.up u11_.hh
   replace hsd1_1 := hsd1_1.up u11_.hh
   replace hsd1_2 := hsd1_2.up u11_.hh
   replace hsd1_3 := hsd1_3.up u11_.hh
   replace hll2_ := hll2_.trans u11_.ll
   replace hhh2_ := hhh2_.trans u11_.hh
   replace htd0 := htd0.up u11_ (by simp)
   replace htd1 := htd1.up u11_ (by simp)
   replace hll4_ := hll4_.trans u11_.ll
   replace hhh4_ := hhh4_.trans u11_.hh
   replace ho11_0 := OwnS.backS ho11_0 hz11_ (Le.refl _)
   clear hI11_ u11_ hl11_
   refine ⟨_, rfl, ?_⟩
   refine Exists.elim (ho11_0.freeze hI) fun L12_ h12_ => Exists.elim h12_ fun H12_ h12_ => ?_
   replace hI := h12_.1
   have u12_ := h12_.2.1
   have hs12_ := h12_.2.2.1 (Le.no _)
   have hc12_ := ho11_0.cap
   replace hsd0_1 := hsd0_1.up u12_.hh
   replace hsd0_2 := hsd0_2.up u12_.hh
   replace hsd0_3 := hsd0_3.up u12_.hh
   replace hsd1_1 := hsd1_1.up u12_.hh
   replace hsd1_2 := hsd1_2.up u12_.hh
   replace hsd1_3 := hsd1_3.up u12_.hh
   replace hll2_ := hll2_.trans u12_.ll
   replace hhh2_ := hhh2_.trans u12_.hh
   replace htd0 := htd0.up u12_ (ho11_0.old hlt_d0)
   replace htd1 := htd1.up u12_ (ho11_0.old hlt_d1)
   replace hll4_ := hll4_.trans u12_.ll
   replace hhh4_ := hhh4_.trans u12_.hh
   clear h12_ u12_ ho11_0
   refine Ops_step (R_move rfl) rfl rfl ?_
   refine Ops_step (R_extract (v := .slice A11_0 r11_0.length c11_0) rfl rfl) rfl rfl ?_
   refine Ops_step (R_extract (v := vi r11_1) rfl rfl) rfl rfl ?_
   refine Ops_step (R_assign rfl) rfl rfl (Ops_step (R_assign rfl) rfl rfl ?_)
   refine Ops_nil ?_
   refine then_n (k10 _ _ ?_)
   clear k10 K10
   refine W_keepB [0, 1, 5, 6, 7, 10] fun B_ b_ => ?_
   simp only [e_, Nat.reduceAdd, Nat.reduceBEq] at b_
   subst b_
   refine W_seq_k fun K14 k14 => ?_
   refine W_region [20, 21, 22, 19, 23, 24, 8, 9] rfl (Ops_step (R_move rfl) rfl rfl (Ops_step (R_move rfl) rfl rfl ?_))
   refine Ops_call (C_func bd55 rfl) rfl rfl ?_
   refine (sealskinref05_Disk_Read_ok (x1 := x10_4) (z0 := z1) hI.st (hg.up hI.le) htd1 hcd1_1 hsd1_1 hcd1_2 hsd1_2 hcd1_3 hsd1_3 h).mono ?_
   rintro _ w15_ ⟨A15_0, c15_0, r15_0, r15_1, L15_, H15_, rfl, hI15_, hc15_0, hs15_0, h⟩
   refine Exists.elim (hI.call hI15_ (by simp)) fun L150_ h15_ => ?_
   have hz15_ := hI.size
   replace hI := h15_.1
   have u15_ := h15_.2.1
   have hl15_ := h15_.2.2
   clear h15_
   replace hsd0_1 := hsd0_1.up u15_.hh
   replace hsd0_2 := hsd0_2.up u15_.hh
   replace hsd0_3 := hsd0_3.up u15_.hh
   replace hsd1_1 := hsd1_1.up u15_.hh
   replace hsd1_2 := hsd1_2.up u15_.hh
   replace hsd1_3 := hsd1_3.up u15_.hh
   replace hll2_ := hll2_.trans u15_.ll
   replace hhh2_ := hhh2_.trans u15_.hh
   replace htd0 := htd0.up u15_ (by simp)
   replace htd1 := htd1.up u15_ (by simp)
   replace hll4_ := hll4_.trans u15_.ll
   replace hhh4_ := hhh4_.trans u15_.hh
   replace hs12_ := hs12_.up u15_.ll
   replace hs15_0 := hs15_0.up (Le.refl _)
   clear hI15_ u15_ hl15_
   refine ⟨_, rfl, ?_⟩
   refine Ops_step (R_move rfl) rfl rfl ?_
   refine Ops_step (R_extract (v := .slice A15_0 r15_0.length c15_0) rfl rfl) rfl rfl ?_
   refine Ops_step (R_extract (v := vi r15_1) rfl rfl) rfl rfl ?_
   refine Ops_step (R_assign rfl) rfl rfl (Ops_step (R_assign rfl) rfl rfl ?_)
   refine Ops_nil ?_
   refine then_n (k14 _ _ ?_)
   clear k14 K14
   refine W_keepB [0, 1, 6, 7, 8, 9, 10] fun B_ b_ => ?_
   simp only [e_, Nat.reduceAdd, Nat.reduceBEq] at b_
   subst b_
   refine ex_ h fun J17_ hr17_ h => ?_
   refine W_seq_join [0, 1, 10] [33] (fun vals_ w2 => ∃ (x33_17 : Bool) (L H : Gh), vals_ = [.bool x33_17] ∧ J17_ x33_17 ∧ Inv [] G w L H w2 ∧ Le L150_ L ∧ Le H15_ H ∧ Tok H w2 d0 53 ([.slice Ad0_1 z0.files_.e0_.length cd0_1, .slice Ad0_2 z0.files_.e1_.length cd0_2, .slice Ad0_3 z0.files_.e2_.length cd0_3, vi z0.room_, .bool z0.off_, .bool z0.armed_, vi z0.left_]) ∧ Tok H w2 d1 81 ([.slice Ad1_1 z1.F_.e0_.length cd1_1, .slice Ad1_2 z1.F_.e1_.length cd1_2, .slice Ad1_3 z1.F_.e2_.length cd1_3, vi z1.Room_, .bool z1.Off_, vi z1.Fuse_]) ∧ True) (fun B_ b_ => ?_) (fun B_ b_ => ?_)
   ·
    simp only [e_, Nat.reduceAdd, Nat.reduceBEq] at b_
    subst b_
    clear hr17_
    have hll17_ := Le.refl L150_
    have hhh17_ := Le.refl H15_
    refine W_region [25, 26, 27, 28, 29, 30, 31, 32, 33] rfl (Ops_step (R_move rfl) rfl rfl (Ops_step (R_move rfl) rfl rfl (Ops_step (R_neq rfl rfl) rfl rfl (Ops_step (R_move rfl) rfl rfl ?_))))
    refine Ops_split 28 rfl (fun hg18_ => ?_) (fun hg18_ => ?_)
    ·
     replace h := h.1 hg18_
     refine Ops_pass rfl rfl (Ops_pass rfl rfl (Ops_pass rfl rfl (Ops_pass rfl rfl (Ops_step (R_pick_true rfl rfl) rfl rfl ?_))))
     refine Ops_nil ?_
     refine then_n ?_
     exact ⟨_, rfl, ⟨true, _, _, rfl, h, hI, hll17_, hhh17_, htd0, htd1, trivial⟩, ⟨rfl, rfl, rfl, trivial⟩⟩
    ·
     replace h := h.2 hg18_
     refine Ops_step (R_move rfl) rfl rfl (Ops_step (R_move rfl) rfl rfl ?_)
     refine Ops_call (C_func bd59 rfl) rfl rfl ?_
     refine (bytes_Equal_ok (x0 := r11_0) (x1 := r15_0) hI.st (hg.up hI.le) hc12_ (hs12_.up hI.sub) hc15_0 hs15_0 h).mono ?_
     rintro _ w19_ ⟨r19_0, L19_, H19_, rfl, hI19_, h⟩
     refine Exists.elim (hI.call hI19_ (by simp)) fun L190_ h19_ => ?_
     have hz19_ := hI.size
     replace hI := h19_.1
     have u19_ := h19_.2.1
     have hl19_ := h19_.2.2
     clear h19_
     replace hsd0_1 := hsd0_1.up u19_.hh
     replace hsd0_2 := hsd0_2.up u19_.hh
     replace hsd0_3 := hsd0_3.up u19_.hh
     replace hsd1_1 := hsd1_1.up u19_.hh
     replace hsd1_2 := hsd1_2.up u19_.hh
     replace hsd1_3 := hsd1_3.up u19_.hh
     replace hll2_ := hll2_.trans u19_.ll
     replace hhh2_ := hhh2_.trans u19_.hh
     replace htd0 := htd0.up u19_ (by simp)
     replace htd1 := htd1.up u19_ (by simp)
     replace hll4_ := hll4_.trans u19_.ll
     replace hhh4_ := hhh4_.trans u19_.hh
     replace hs12_ := hs12_.up u19_.ll
     replace hs15_0 := hs15_0.up u19_.hh
     replace hll17_ := hll17_.trans u19_.ll
     replace hhh17_ := hhh17_.trans u19_.hh
     clear hI19_ u19_ hl19_
     refine ⟨_, rfl, ?_⟩
     refine Ops_step (R_not rfl) rfl rfl (Ops_step (R_pick_false rfl rfl) rfl rfl ?_)
     refine Ops_nil ?_
     refine then_n ?_
     exact ⟨_, rfl, ⟨(!r19_0), _, _, rfl, h, hI, hll17_, hhh17_, htd0, htd1, trivial⟩, ⟨rfl, rfl, rfl, trivial⟩⟩
   ·
    simp only [e_, Nat.reduceAdd, Nat.reduceBEq] at b_
    subst b_
    clear h
    clear htd0
    clear htd1
    rintro _ w17_ ⟨x33_17, L17_, H17_, rfl, hJ17_, hI17_, hll17_, hhh17_, htd0, htd1, -⟩
    replace hI := hI17_
    clear hI17_
    have h := hr17_ x33_17 hJ17_
    clear hr17_ hJ17_
    replace hsd0_1 := hsd0_1.up hhh17_
    replace hsd0_2 := hsd0_2.up hhh17_
    replace hsd0_3 := hsd0_3.up hhh17_
    replace hsd1_1 := hsd1_1.up hhh17_
    replace hsd1_2 := hsd1_2.up hhh17_
    replace hsd1_3 := hsd1_3.up hhh17_
    replace hll2_ := hll2_.trans hll17_
    replace hhh2_ := hhh2_.trans hhh17_
    replace hll4_ := hll4_.trans hll17_
    replace hhh4_ := hhh4_.trans hhh17_
    refine W_cond rfl (fun hc20_ => ?_) (fun hc20_ => ?_)
    ·
     replace h := h.1 hc20_
     refine W_seq_k fun K21 k21 => ?_
     refine W_region [4] rfl (Ops_step (R_assign rfl) rfl rfl ?_)
     refine Ops_nil ?_
     refine then_n (k21 _ _ ?_)
     clear k21 K21
     refine W_ret ?_
     refine block_ret ?_
     refine then_ret ?_
     clear k8 K8
     refine then_ret ?_
     refine block_ret ?_
     refine then_ret ?_
     refine ⟨_, ⟨_, _, rfl, rfl, rfl⟩, ?_⟩
     exact ⟨false, _, _, rfl, hI, h⟩
    ·
     replace h := h.2 hc20_
     refine W_skip ?_
     refine block_n ?_
     refine then_n (k8 _ _ ?_)
     clear k8 K8
     refine W_region [34, 10] rfl ?_
     have hk22_ := h.1
     replace h := h.2
     refine Ops_step (R_add rfl rfl (wI hk22_.1 hk22_.2)) rfl rfl (Ops_step (R_move rfl) rfl rfl ?_)
     refine Ops_nil ?_
     refine then_n ?_
     exact h.elim fun m_ h => ⟨m_, _, h.1, rfl, ⟨(x10_4 + 1), _, _, rfl, h.2, hI, hll4_, hhh4_, htd0, htd1, trivial⟩, ⟨rfl, rfl, trivial⟩⟩
  ·
   replace h := h.2 hc7_
   refine W_exit ?_
   refine then_exit ?_
   clear k6 K6
   refine then_exit ?_
   refine block_exit ?_
   refine then_n ?_
   exact ⟨_, rfl, ⟨_, _, rfl, h, hI, hll2_, hhh2_, htd0, htd1, trivial⟩, trivial⟩
 ·
  simp only [e_, Nat.reduceAdd, Nat.reduceBEq] at b_
  subst b_
  clear h
  clear htd0
  clear htd1
  rintro _ w2_ ⟨L2_, H2_, rfl, hJ2_, hI2_, hll2_, hhh2_, htd0, htd1, -⟩
  replace hI := hI2_
  clear hI2_
  have h := hr2_ hJ2_
  clear hr2_ hJ2_
  replace hsd0_1 := hsd0_1.up hhh2_
  replace hsd0_2 := hsd0_2.up hhh2_
  replace hsd0_3 := hsd0_3.up hhh2_
  replace hsd1_1 := hsd1_1.up hhh2_
  replace hsd1_2 := hsd1_2.up hhh2_
  replace hsd1_3 := hsd1_3.up hhh2_
  refine W_seq_k fun K23 k23 => ?_
  refine W_region [4] rfl (Ops_step (R_assign rfl) rfl rfl ?_)
  refine Ops_nil ?_
  refine then_n (k23 _ _ ?_)
  clear k23 K23
  refine W_ret ?_
  refine ⟨_, ⟨_, _, rfl, rfl, rfl⟩, ?_⟩
  exact ⟨true, _, _, rfl, hI, h⟩

end Go.Proofs.Ytkmljjhjojolcaa

