/- What is shown of the program on the way to the law. -/
import Derived.Test.YtkmljjhjojolcaaZo3
import Derived.Test.YtkmljjhjojolcaaZo4
import Derived.Test.YtkmljjhjojolcaaZo11
import Derived.Test.YtkmljjhjojolcaaProg
set_option linter.unusedVariables false
set_option linter.unusedSimpArgs false
set_option maxHeartbeats 4000000
namespace Go.Proofs.Ytkmljjhjojolcaa
open Go Go.Sx Go.Lx
namespace TJtG
theorem hm : Try.prog.follows .mixedOrders = true := by kernel_rfl
theorem ag29 : aggB Try.prog 29 = some false := by kernel_rfl
theorem ag3 : aggB Try.prog 3 = some false := by kernel_rfl
theorem ag32 : aggB Try.prog 32 = some false := by kernel_rfl
theorem ag4 : aggB Try.prog 4 = some false := by kernel_rfl
theorem ag5 : aggB Try.prog 5 = some false := by kernel_rfl
theorem bd52 : bodied Try.prog 52 = true := by kernel_rfl
theorem bd53 : bodied Try.prog 53 = true := by kernel_rfl
theorem bd54 : bodied Try.prog 54 = true := by kernel_rfl
theorem bd88 : bodied Try.prog 88 = true := by kernel_rfl
theorem el29 : Elem Try.prog 29 5 1 1 := Elem.of (by kernel_rfl)
theorem fo113_0 : offB Try.prog 113 0 = some 0 := by kernel_rfl
theorem fo113_1 : offB Try.prog 113 1 = some 1 := by kernel_rfl
theorem fo113_2 : offB Try.prog 113 2 = some 2 := by kernel_rfl
theorem fo81_0 : offB Try.prog 81 0 = some 0 := by kernel_rfl
theorem fo81_1 : offB Try.prog 81 1 = some 3 := by kernel_rfl
theorem fo81_2 : offB Try.prog 81 2 = some 4 := by kernel_rfl
theorem sz29 : sz Try.prog 29 = some 1 := by kernel_rfl
theorem sz3 : sz Try.prog 3 = some 1 := by kernel_rfl
theorem sz32 : sz Try.prog 32 = some 1 := by kernel_rfl
theorem sz5 : sz Try.prog 5 = some 1 := by kernel_rfl
theorem zr5 : zr Try.prog 5 = some ([.int .u8 0]) := by kernel_rfl
end TJtG
open TJtG
theorem sealskinref05_Disk_Append_ok {G : Gh} {w : World} (hS : St G w) (hg : GL G) {d0 : Nat} {z0 : sealskinref05_Disk} {Ad0_1 : Option Addr} {cd0_1 : Nat} {Ad0_2 : Option Addr} {cd0_2 : Nat} {Ad0_3 : Option Addr} {cd0_3 : Nat} (htd0 : Tok G w d0 81 ([.slice Ad0_1 z0.F_.e0_.length cd0_1, .slice Ad0_2 z0.F_.e1_.length cd0_2, .slice Ad0_3 z0.F_.e2_.length cd0_3, vi z0.Room_, .bool z0.Off_, vi z0.Fuse_])) (hcd0_1 : z0.F_.e0_.length ≤ cd0_1) (hsd0_1 : Sl G Ad0_1 z0.F_.e0_) (hcd0_2 : z0.F_.e1_.length ≤ cd0_2) (hsd0_2 : Sl G Ad0_2 z0.F_.e1_) (hcd0_3 : z0.F_.e2_.length ≤ cd0_3) (hsd0_3 : Sl G Ad0_3 z0.F_.e2_) {x1 : Int} {A2 : Option Addr} {c2 : Nat} {x2 : List UInt8} (hc2 : x2.length ≤ c2) (hs2 : Sl G A2 x2) {Q : Int → sealskinref05_Disk → Prop} (h : sealskinref05_Disk_Append z0 x1 x2 Q) : Calls Try.prog 27 #[.pointer (some ⟨d0, 0, none⟩), vi x1, .slice A2 x2.length c2] w fun e w2 => ∃ (r0 : Int) (y0 : sealskinref05_Disk) (Ay0_1 : Option Addr) (cy0_1 : Nat) (Ay0_2 : Option Addr) (cy0_2 : Nat) (Ay0_3 : Option Addr) (cy0_3 : Nat) (L H : Gh), e = .returned (vi r0) ∧ Inv [d0] G w L H w2 ∧ Tok H w2 d0 81 ([.slice Ay0_1 y0.F_.e0_.length cy0_1, .slice Ay0_2 y0.F_.e1_.length cy0_2, .slice Ay0_3 y0.F_.e2_.length cy0_3, vi y0.Room_, .bool y0.Off_, vi y0.Fuse_]) ∧ y0.F_.e0_.length ≤ cy0_1 ∧ Sl H Ay0_1 y0.F_.e0_ ∧ y0.F_.e1_.length ≤ cy0_2 ∧ Sl H Ay0_2 y0.F_.e1_ ∧ y0.F_.e2_.length ≤ cy0_3 ∧ Sl H Ay0_3 y0.F_.e2_ ∧ Q r0 y0 := by
 unfold sealskinref05_Disk_Append at h
 have hI := Inv.start (M := [d0]) hS
 refine calls_W 62 Try.func27 rfl Try.ntmps27 rfl [.tmp 6] rfl ?_
 have hlt_d0 := htd0.blk.lt
 refine W_seq_k fun K1 k1 => ?_
 refine W_region [6] rfl (Ops_step (R_assign rfl) rfl rfl ?_)
 refine Ops_nil ?_
 refine then_n (k1 _ _ ?_)
 clear k1 K1
 refine W_seq_k fun K2 k2 => ?_
 refine W_seq_k fun K3 k3 => ?_
 refine W_region [11, 12, 13, 7] rfl (Ops_step (R_move rfl) rfl rfl (Ops_step (R_move rfl) rfl rfl ?_))
 refine Ops_call (C_func bd52 rfl) rfl rfl ?_
 refine (sealskinref05_Disk_may_ok (x1 := x1) (z0 := z0) hI.st (hg.up hI.le) htd0 hcd0_1 hsd0_1 hcd0_2 hsd0_2 hcd0_3 hsd0_3 h).mono ?_
 rintro _ w4_ ⟨r4_0, L4_, H4_, rfl, hI4_, h⟩
 refine Exists.elim (hI.call hI4_ (by simp)) fun L40_ h4_ => ?_
 have hz4_ := hI.size
 replace hI := h4_.1
 have u4_ := h4_.2.1
 have hl4_ := h4_.2.2
 clear h4_
 replace hsd0_1 := hsd0_1.up u4_.hh
 replace hsd0_2 := hsd0_2.up u4_.hh
 replace hsd0_3 := hsd0_3.up u4_.hh
 replace htd0 := htd0.up u4_ (by simp)
 replace hs2 := hs2.up u4_.hh
 clear hI4_ u4_ hl4_
 refine ⟨_, rfl, ?_⟩
 refine Ops_step (R_assign rfl) rfl rfl ?_
 refine Ops_nil ?_
 refine then_n (k3 _ _ ?_)
 clear k3 K3
 refine W_seq_k fun K5 k5 => ?_
 refine W_region [14, 15] rfl (Ops_step (R_move rfl) rfl rfl (Ops_step (R_neq rfl rfl) rfl rfl ?_))
 refine Ops_nil ?_
 refine then_n (k5 _ _ ?_)
 clear k5 K5
 refine W_if rfl (fun hc6_ => ?_) (fun hc6_ => ?_)
 ·
  replace h := h.1 hc6_
  refine W_seq_k fun K7 k7 => ?_
  refine W_region [16, 6] rfl (Ops_step (R_move rfl) rfl rfl (Ops_step (R_assign rfl) rfl rfl ?_))
  refine Ops_nil ?_
  refine then_n (k7 _ _ ?_)
  clear k7 K7
  refine W_keepB [6] fun B_ b_ => ?_
  simp only [e_, Nat.reduceAdd, Nat.reduceBEq] at b_
  subst b_
  refine W_ret ?_
  refine then_ret ?_
  clear k2 K2
  refine ⟨_, ⟨_, _, rfl, rfl, rfl⟩, ?_⟩
  exact ⟨r4_0, z0, Ad0_1, cd0_1, Ad0_2, cd0_2, Ad0_3, cd0_3, _, _, rfl, hI, htd0, hcd0_1, hsd0_1, hcd0_2, hsd0_2, hcd0_3, hsd0_3, h⟩
 ·
  replace h := h.2 hc6_
  refine W_skip ?_
  refine then_n (k2 _ _ ?_)
  clear k2 K2
  refine W_keepB [0, 1, 2] fun B_ b_ => ?_
  simp only [e_, Nat.reduceAdd, Nat.reduceBEq] at b_
  subst b_
  refine W_seq_k fun K10 k10 => ?_
  refine W_seq_k fun K11 k11 => ?_
  refine W_drawF [17, 18, 19, 20, 21, 22, 23, 24, 25, 26] [(0, true), (2, true), (3, true), (5, true), (6, true), (7, true), (8, true), (1, false), (4, true), (9, true)] TJtG.hm rfl (by kernel_rfl) fun ops12_ w12_ hops12_ hF12_ => ?_
  replace hI := hI.fr0 hF12_
  replace htd0 := htd0.fr0 hF12_
  clear hF12_
  refine HSp (R_move rfl) rfl rfl (HSp (R_move rfl) rfl rfl (HSp (R_len Try.underlying29 rfl rfl) rfl rfl (HSp (R_move rfl) rfl rfl (HSp (R_nilCheck rfl) rfl rfl ?_))))
  refine HSp (R_fieldAddr fo81_1 rfl) rfl rfl ?_
  refine HS_loadB (v := vi z0.Room_) ag3 rfl htd0.blk rfl rfl rfl ?_
  refine HS_call [8] _ rfl (by rw [hops12_]; kernel_rfl) (C_func bd53 rfl) rfl rfl ?_
  refine (sealskinref05_Disk_Used_ok (z0 := z0) hI.st (hg.up hI.le) htd0 hcd0_1 hsd0_1 hcd0_2 hsd0_2 hcd0_3 hsd0_3 h).mono ?_
  rintro _ w13_ ⟨r13_0, L13_, H13_, rfl, hI13_, h⟩
  refine Exists.elim (hI.call hI13_ (by simp)) fun L130_ h13_ => ?_
  have hz13_ := hI.size
  replace hI := h13_.1
  have u13_ := h13_.2.1
  have hl13_ := h13_.2.2
  clear h13_
  replace hsd0_1 := hsd0_1.up u13_.hh
  replace hsd0_2 := hsd0_2.up u13_.hh
  replace hsd0_3 := hsd0_3.up u13_.hh
  replace htd0 := htd0.up u13_ (by simp)
  replace hs2 := hs2.up u13_.hh
  clear hI13_ u13_ hl13_
  refine ⟨_, rfl, ⟨(htd0.blk.at_ rfl), trivial⟩, ?_⟩
  have hk14_ := h.1
  replace h := h.2
  refine HSp (R_add rfl rfl (wI hk14_.1 hk14_.2)) rfl rfl (HSp (R_gtr rfl rfl) rfl rfl ?_)
  refine HS_nil ?_
  clear hops12_
  refine then_n (k11 _ _ ?_)
  clear k11 K11
  refine W_keepB [0, 1, 2, 26] fun B_ b_ => ?_
  simp only [e_, Nat.reduceAdd, Nat.reduceBEq] at b_
  subst b_
  refine W_if rfl (fun hc16_ => ?_) (fun hc16_ => ?_)
  ·
   replace h := h.1 hc16_
   refine W_seq_k fun K17 k17 => ?_
   refine W_region [6] rfl (Ops_step (R_assign rfl) rfl rfl ?_)
   refine Ops_nil ?_
   refine then_n (k17 _ _ ?_)
   clear k17 K17
   refine W_ret ?_
   refine then_ret ?_
   clear k10 K10
   refine ⟨_, ⟨_, _, rfl, rfl, rfl⟩, ?_⟩
   exact ⟨7, z0, Ad0_1, cd0_1, Ad0_2, cd0_2, Ad0_3, cd0_3, _, _, rfl, hI, htd0, hcd0_1, hsd0_1, hcd0_2, hsd0_2, hcd0_3, hsd0_3, h⟩
  ·
   replace h := h.2 hc16_
   refine W_skip ?_
   refine then_n (k10 _ _ ?_)
   clear k10 K10
   refine W_seq_k fun K18 k18 => ?_
   refine W_region [27, 28, 29, 30, 31, 32, 33, 34, 8] rfl ?_
   refine Ops_to (R_buildSlice0 el29) rfl rfl ?_
   rintro _ w19_ ⟨b19_, rfl, hb19_, hB19_, hF19_⟩
   have ho19_ : OwnS w.heap.size 5 Gh.no H13_ _ (some ⟨b19_, 0, none⟩) 0 ([] : List UInt8) := OwnS.ofBlk hI.st hb19_ hB19_ (all2_sc' _) rfl (by have := hI.size; omega) (by show 0 ≤ maxLen; decide)
   replace hI := hI.fr0 hF19_
   replace htd0 := htd0.fr0 hF19_
   clear hF19_ hB19_
   refine Ops_step (R_move rfl) rfl rfl (Ops_step (R_move rfl) rfl rfl (Ops_step (R_nilCheck rfl) rfl rfl (Ops_step (R_fieldAddr fo81_0 rfl) rfl rfl ?_)))
   have hk20_ := h.1
   replace h := h.2
   refine split3 hk20_ (fun hi20_ => ?_) (fun hi20_ => ?_) (fun hi20_ => ?_)
   ·
    replace h := h.1 hi20_
    refine Ops_step (R_indexArrK Try.underlying51 sz29 rfl rfl hi20_ (by decide)) rfl rfl ?_
    refine Ops_step (R_loadB (v := .slice Ad0_1 z0.F_.e0_.length cd0_1) ag29 rfl htd0.blk rfl) rfl rfl ?_
    have hk22_ := h.1
    replace h := h.2
    refine Ops_to (X_append (α := UInt8) (xs := ([] : List UInt8)) (ys := z0.F_.e0_) el29 rfl rfl ho19_ (Srcs.sc (Srcs.ofSl Try.underlying29 hsd0_1 hI.st (by decide))) hI.st hk22_ (by decide) hI.size) rfl rfl ?_
    rintro _ w21_ ⟨A21_, c21_, rfl, ho21_, hF21_, hbk21_⟩
    clear hbk21_
    replace hI := hI.tok hF21_ ho19_.out (ho19_.new (Nat.le_refl _))
    replace htd0 := htd0.fr hF21_ (ho19_.old hlt_d0)
    clear hF21_ ho19_
    refine Ops_step (R_assign rfl) rfl rfl ?_
    refine Ops_nil ?_
    refine then_n (k18 _ _ ?_)
    clear k18 K18
    refine W_keepB [0, 1, 2, 8] fun B_ b_ => ?_
    simp only [e_, Nat.reduceAdd, Nat.reduceBEq] at b_
    subst b_
    refine ex_ h fun J24_ hr24_ h => ?_
    refine W_seq_join [0, 1] [8] (fun vals_ w2 => ∃ (x8_24 : List UInt8) (A8_24 : Option Addr) (c8_24 : Nat) (yd0_24 : sealskinref05_Disk) (Ad0_24_1 : Option Addr) (cd0_24_1 : Nat) (Ad0_24_2 : Option Addr) (cd0_24_2 : Nat) (Ad0_24_3 : Option Addr) (cd0_24_3 : Nat) (L H : Gh), vals_ = [.slice A8_24 x8_24.length c8_24] ∧ J24_ x8_24 yd0_24 ∧ Inv [d0] G w L H w2 ∧ Le L130_ L ∧ Le H13_ H ∧ OwnS w.heap.size 5 Gh.no H w2 A8_24 c8_24 x8_24 ∧ Tok H w2 d0 81 ([.slice Ad0_24_1 yd0_24.F_.e0_.length cd0_24_1, .slice Ad0_24_2 yd0_24.F_.e1_.length cd0_24_2, .slice Ad0_24_3 yd0_24.F_.e2_.length cd0_24_3, vi yd0_24.Room_, .bool yd0_24.Off_, vi yd0_24.Fuse_]) ∧ yd0_24.F_.e0_.length ≤ cd0_24_1 ∧ Sl H Ad0_24_1 yd0_24.F_.e0_ ∧ yd0_24.F_.e1_.length ≤ cd0_24_2 ∧ Sl H Ad0_24_2 yd0_24.F_.e1_ ∧ yd0_24.F_.e2_.length ≤ cd0_24_3 ∧ Sl H Ad0_24_3 yd0_24.F_.e2_ ∧ True) (fun B_ b_ => ?_) (fun B_ b_ => ?_)
    ·
     simp only [e_, Nat.reduceAdd, Nat.reduceBEq] at b_
     subst b_
     clear hr24_
     have hll24_ := Le.refl L130_
     have hhh24_ := Le.refl H13_
     refine W_seq_k fun K25 k25 => ?_
     refine W_region [35, 36, 37] rfl (Ops_step (R_move rfl) rfl rfl (Ops_step (R_len Try.underlying29 rfl rfl) rfl rfl (Ops_step (R_move rfl) rfl rfl ?_)))
     refine Ops_nil ?_
     refine then_n (k25 _ _ ?_)
     clear k25 K25
     refine W_block ?_
     refine Exists.elim h fun I26_ h => Exists.elim h fun n26_ h => ?_
     have h0_ := h.1
     have hs26_ := h.2
     clear h
     refine W_loopB [0, 1, 35, 36] [8, 37] (fun m vals_ w2 => ∃ (x8_26 : List UInt8) (A8_26 : Option Addr) (c8_26 : Nat) (x37_26 : Int) (yd0_26 : sealskinref05_Disk) (Ad0_26_1 : Option Addr) (cd0_26_1 : Nat) (Ad0_26_2 : Option Addr) (cd0_26_2 : Nat) (Ad0_26_3 : Option Addr) (cd0_26_3 : Nat) (L H : Gh), vals_ = [.slice A8_26 x8_26.length c8_26, vi x37_26] ∧ I26_ m x8_26 x37_26 yd0_26 ∧ Inv [d0] G w L H w2 ∧ Le L130_ L ∧ Le H13_ H ∧ OwnS w.heap.size 5 Gh.no H w2 A8_26 c8_26 x8_26 ∧ Tok H w2 d0 81 ([.slice Ad0_26_1 yd0_26.F_.e0_.length cd0_26_1, .slice Ad0_26_2 yd0_26.F_.e1_.length cd0_26_2, .slice Ad0_26_3 yd0_26.F_.e2_.length cd0_26_3, vi yd0_26.Room_, .bool yd0_26.Off_, vi yd0_26.Fuse_]) ∧ yd0_26.F_.e0_.length ≤ cd0_26_1 ∧ Sl H Ad0_26_1 yd0_26.F_.e0_ ∧ yd0_26.F_.e1_.length ≤ cd0_26_2 ∧ Sl H Ad0_26_2 yd0_26.F_.e1_ ∧ yd0_26.F_.e2_.length ≤ cd0_26_3 ∧ Sl H Ad0_26_3 yd0_26.F_.e2_ ∧ True) n26_ _ rfl ⟨(([] : List UInt8) ++ z0.F_.e0_), A21_, c21_, 0, z0, Ad0_1, cd0_1, Ad0_2, cd0_2, Ad0_3, cd0_3, _, _, rfl, h0_, hI, Le.refl _, Le.refl _, ho21_, htd0, hcd0_1, hsd0_1, hcd0_2, hsd0_2, hcd0_3, hsd0_3, trivial⟩ fun B_ b_ => ?_
     clear h0_
     simp only [e_, Nat.reduceAdd, Nat.reduceBEq] at b_
     subst b_
     rintro m26_ _ w26_ ⟨x8_26, A8_26, c8_26, x37_26, yd0_26, Ad0_26_1, cd0_26_1, Ad0_26_2, cd0_26_2, Ad0_26_3, cd0_26_3, L26_, H26_, rfl, hJ26_, hI26_, hll26_, hhh26_, ho8_26, htd0_26, hcd0_26_1, hsd0_26_1, hcd0_26_2, hsd0_26_2, hcd0_26_3, hsd0_26_3, -⟩
     replace hI := hI26_
     clear hI26_
     have h := hs26_ m26_ x8_26 x37_26 yd0_26 hJ26_
     clear hs26_ hJ26_
     replace hs2 := hs2.up hhh26_
     replace hll24_ := hll24_.trans hll26_
     replace hhh24_ := hhh24_.trans hhh26_
     refine W_seq_k fun K27 k27 => ?_
     refine W_region [38] rfl (Ops_step (R_lss rfl rfl) rfl rfl ?_)
     refine Ops_nil ?_
     refine then_n (k27 _ _ ?_)
     clear k27 K27
     refine W_seq_k fun K28 k28 => ?_
     refine W_if rfl (fun hc29_ => ?_) (fun hc29_ => ?_)
     ·
      replace h := h.1 hc29_
      refine W_skip ?_
      refine then_n (k28 _ _ ?_)
      clear k28 K28
      refine W_seq_k fun K30 k30 => ?_
      refine W_block ?_
      refine W_seq_k fun K31 k31 => ?_
      refine W_region [39, 40, 10] rfl ?_
      refine ex_ h fun x32_ hx32_ h => ?_
      have ha32_ := (hs2.atS hx32_).1
      have hg32_ := (hs2.atS hx32_).2
      refine Ops_step (R_indexSl Try.underlying29 sz5 rfl rfl hx32_.1 hx32_.lt ha32_) rfl rfl (Ops_step (R_load ag5 rfl (hI.st _ _ hg32_)) rfl rfl (Ops_step (R_assign rfl) rfl rfl ?_))
      refine Ops_nil ?_
      refine then_n (k31 _ _ ?_)
      clear k31 K31
      refine W_seq_k fun K33 k33 => ?_
      refine W_seq_k fun K34 k34 => ?_
      refine W_region [41, 42, 43, 44] rfl (Ops_step (R_move rfl) rfl rfl (Ops_step (R_nilCheck rfl) rfl rfl (Ops_step (R_fieldAddr fo81_2 rfl) rfl rfl ?_)))
      refine Ops_step (R_loadB (v := .bool yd0_26.Off_) ag4 rfl htd0_26.blk rfl) rfl rfl ?_
      refine Ops_nil ?_
      refine then_n (k34 _ _ ?_)
      clear k34 K34
      refine W_keepB [0, 1, 8, 10, 35, 36, 37, 44] fun B_ b_ => ?_
      simp only [e_, Nat.reduceAdd, Nat.reduceBEq] at b_
      subst b_
      refine W_cond rfl (fun hc36_ => ?_) (fun hc36_ => ?_)
      ·
       replace h := h.1 hc36_
       refine W_exit ?_
       refine then_exit ?_
       clear k33 K33
       refine block_other rfl ?_
       refine then_exit ?_
       clear k30 K30
       refine then_exit ?_
       refine block_exit ?_
       refine then_n ?_
       exact ⟨_, rfl, ⟨x8_26, A8_26, c8_26, yd0_26, Ad0_26_1, cd0_26_1, Ad0_26_2, cd0_26_2, Ad0_26_3, cd0_26_3, _, _, rfl, h, hI, hll24_, hhh24_, ho8_26, htd0_26, hcd0_26_1, hsd0_26_1, hcd0_26_2, hsd0_26_2, hcd0_26_3, hsd0_26_3, trivial⟩, ⟨rfl, rfl, trivial⟩⟩
      ·
       replace h := h.2 hc36_
       refine W_skip ?_
       refine then_n (k33 _ _ ?_)
       clear k33 K33
       refine W_seq_k fun K37 k37 => ?_
       refine W_region [45, 46, 47, 48, 8] rfl (Ops_step (R_move rfl) rfl rfl (Ops_step (R_move rfl) rfl rfl ?_))
       have hlo38_ho8_26 := ho8_26.lt
       refine Ops_to (R_buildSlice el29 zr5 (by decide) (by decide) rfl rfl) rfl rfl ?_
       rintro _ w38_ ⟨b38_, rfl, hb38_, hB38_, hF38_⟩
       have ho38_ : OwnS w.heap.size 5 Gh.no H26_ _ (some ⟨b38_, 0, none⟩) 1 ([x32_] : List UInt8) := OwnS.ofBlk hI.st hb38_ hB38_ (all2_sc' _) rfl (by have := hI.size; omega) (by show 1 ≤ maxLen; decide)
       replace hI := hI.fr0 hF38_
       replace htd0_26 := htd0_26.fr0 hF38_
       replace ho8_26 := ho8_26.fr0 hF38_
       clear hF38_ hB38_
       have hsp38_ho8_26 : ∀ i ∈ bk (some ⟨b38_, 0, none⟩) 1, i ∉ bk A8_26 c8_26 := sep_new (fun i_ hi_ => by have := (bk_of hi_).1; simp only [blkOf, List.mem_singleton] at this; omega) hlo38_ho8_26
       have hk40_ := h.1
       replace h := h.2
       refine Ops_to (X_append (α := UInt8) (xs := x8_26) (ys := ([x32_] : List UInt8)) el29 rfl rfl ho8_26 (Srcs.sc (Srcs.ofOwn Try.underlying29 ho38_ (by decide))) hI.st hk40_ (by decide) hI.size) rfl rfl ?_
       rintro _ w39_ ⟨A39_, c39_, rfl, ho39_, hF39_, hbk39_⟩
       clear hbk39_
       replace hI := hI.tok hF39_ ho8_26.out (ho8_26.new (Nat.le_refl _))
       replace htd0_26 := htd0_26.fr hF39_ (ho8_26.old hlt_d0)
       clear hF39_ ho8_26
       refine Ops_step (R_assign rfl) rfl rfl ?_
       refine Ops_nil ?_
       refine then_n (k37 _ _ ?_)
       clear k37 K37
       refine W_keepB [0, 1, 8, 35, 36, 37] fun B_ b_ => ?_
       simp only [e_, Nat.reduceAdd, Nat.reduceBEq] at b_
       subst b_
       refine W_region [49, 50] rfl (Ops_step (R_move rfl) rfl rfl ?_)
       refine Ops_call (C_func bd54 rfl) rfl rfl ?_
       refine (sealskinref05_Disk_burn_ok (z0 := yd0_26) hI.st (hg.up hI.le) htd0_26 hcd0_26_1 hsd0_26_1 hcd0_26_2 hsd0_26_2 hcd0_26_3 hsd0_26_3 h).mono ?_
       rintro _ w42_ ⟨y42_o0, A42_o0_1, c42_o0_1, A42_o0_2, c42_o0_2, A42_o0_3, c42_o0_3, L42_, H42_, rfl, hI42_, ht42_o0, hc42_o0_1, hs42_o0_1, hc42_o0_2, hs42_o0_2, hc42_o0_3, hs42_o0_3, h⟩
       refine Exists.elim (hI.call hI42_ (mem1 (by simp))) fun L420_ h42_ => ?_
       have hz42_ := hI.size
       replace hI := h42_.1
       have u42_ := h42_.2.1
       have hl42_ := h42_.2.2
       clear h42_
       replace hs2 := hs2.up u42_.hh
       replace hll24_ := hll24_.trans u42_.ll
       replace hhh24_ := hhh24_.trans u42_.hh
       replace hsd0_26_1 := hsd0_26_1.up u42_.hh
       replace hsd0_26_2 := hsd0_26_2.up u42_.hh
       replace hsd0_26_3 := hsd0_26_3.up u42_.hh
       replace hll26_ := hll26_.trans u42_.ll
       replace hhh26_ := hhh26_.trans u42_.hh
       replace ho39_ := ho39_.up (Le.refl _) u42_ (ho39_.oldt hlt_d0)
       clear htd0_26
       clear hI42_ u42_ hl42_
       refine ⟨_, rfl, ?_⟩
       refine Ops_nil ?_
       refine block_n ?_
       refine then_n (k30 _ _ ?_)
       clear k30 K30
       refine W_region [51, 37] rfl ?_
       have hk43_ := h.1
       replace h := h.2
       refine Ops_step (R_add rfl rfl (wI hk43_.1 hk43_.2)) rfl rfl (Ops_step (R_move rfl) rfl rfl ?_)
       refine Ops_nil ?_
       refine then_n ?_
       exact h.elim fun m_ h => ⟨m_, _, h.1, rfl, ⟨(x8_26 ++ ([x32_] : List UInt8)), A39_, c39_, (x37_26 + 1), y42_o0, A42_o0_1, c42_o0_1, A42_o0_2, c42_o0_2, A42_o0_3, c42_o0_3, _, _, rfl, h.2, hI, hll26_, hhh26_, ho39_, ht42_o0, hc42_o0_1, hs42_o0_1, hc42_o0_2, hs42_o0_2, hc42_o0_3, hs42_o0_3, trivial⟩, ⟨rfl, rfl, rfl, rfl, trivial⟩⟩
     ·
      replace h := h.2 hc29_
      refine W_exit ?_
      refine then_exit ?_
      clear k28 K28
      refine then_exit ?_
      refine block_exit ?_
      refine then_n ?_
      exact ⟨_, rfl, ⟨x8_26, A8_26, c8_26, yd0_26, Ad0_26_1, cd0_26_1, Ad0_26_2, cd0_26_2, Ad0_26_3, cd0_26_3, _, _, rfl, h, hI, hll24_, hhh24_, ho8_26, htd0_26, hcd0_26_1, hsd0_26_1, hcd0_26_2, hsd0_26_2, hcd0_26_3, hsd0_26_3, trivial⟩, ⟨rfl, rfl, trivial⟩⟩
    ·
     simp only [e_, Nat.reduceAdd, Nat.reduceBEq] at b_
     subst b_
     clear h
     rintro _ w24_ ⟨x8_24, A8_24, c8_24, yd0_24, Ad0_24_1, cd0_24_1, Ad0_24_2, cd0_24_2, Ad0_24_3, cd0_24_3, L24_, H24_, rfl, hJ24_, hI24_, hll24_, hhh24_, ho8_24, htd0_24, hcd0_24_1, hsd0_24_1, hcd0_24_2, hsd0_24_2, hcd0_24_3, hsd0_24_3, -⟩
     replace hI := hI24_
     clear hI24_
     have h := hr24_ x8_24 yd0_24 hJ24_
     clear hr24_ hJ24_
     refine W_seq_k fun K44 k44 => ?_
     refine W_region [52, 53, 54, 55, 56, 57, none] rfl (Ops_step (R_move rfl) rfl rfl (Ops_step (R_move rfl) rfl rfl (Ops_step (R_move rfl) rfl rfl (Ops_step (R_nilCheck rfl) rfl rfl ?_))))
     refine Ops_step (R_fieldAddr fo81_0 rfl) rfl rfl (Ops_step (R_indexArrK Try.underlying51 sz29 rfl rfl hi20_ (by decide)) rfl rfl ?_)
     refine Exists.elim (ho8_24.freeze hI) fun L46_ h46_ => Exists.elim h46_ fun H46_ h46_ => ?_
     replace hI := h46_.1
     have u46_ := h46_.2.1
     have hs46_ := h46_.2.2.1 (Le.no _)
     have hc46_ := ho8_24.cap
     replace htd0_24 := htd0_24.up u46_ (ho8_24.old hlt_d0)
     replace hsd0_24_1 := hsd0_24_1.up u46_.hh
     replace hsd0_24_2 := hsd0_24_2.up u46_.hh
     replace hsd0_24_3 := hsd0_24_3.up u46_.hh
     clear h46_ u46_ ho8_24
     refine Ops_to0 (R_store sz29 rfl rfl htd0_24.blk (by show 0 < 6; decide) rfl) rfl ?_
     rintro _ w45_ ⟨hB45_, hF45_⟩
     replace hI := hI.tok hF45_ (out1 htd0_24.out) (mem1 (by simp))
     replace htd0_24 : Tok H46_ _ d0 81 ([.slice A8_24 x8_24.length c8_24, .slice Ad0_24_2 yd0_24.F_.e1_.length cd0_24_2, .slice Ad0_24_3 yd0_24.F_.e2_.length cd0_24_3, vi yd0_24.Room_, .bool yd0_24.Off_, vi yd0_24.Fuse_]) := ⟨hB45_, htd0_24.out⟩
     clear hF45_ hB45_
     refine Ops_nil ?_
     refine then_n (k44 _ _ ?_)
     clear k44 K44
     refine W_keepB [0] fun B_ b_ => ?_
     simp only [e_, Nat.reduceAdd, Nat.reduceBEq] at b_
     subst b_
     refine W_seq_k fun K48 k48 => ?_
     refine W_seq_k fun K49 k49 => ?_
     refine W_region [58, 59, 60, 61] rfl (Ops_step (R_move rfl) rfl rfl (Ops_step (R_nilCheck rfl) rfl rfl (Ops_step (R_fieldAddr fo81_2 rfl) rfl rfl ?_)))
     refine Ops_step (R_loadB (v := .bool yd0_24.Off_) ag4 rfl htd0_24.blk rfl) rfl rfl ?_
     refine Ops_nil ?_
     refine then_n (k49 _ _ ?_)
     clear k49 K49
     refine W_cond rfl (fun hc50_ => ?_) (fun hc50_ => ?_)
     ·
      replace h := h.1 hc50_
      refine W_seq_k fun K51 k51 => ?_
      refine W_region [6] rfl (Ops_step (R_assign rfl) rfl rfl ?_)
      refine Ops_nil ?_
      refine then_n (k51 _ _ ?_)
      clear k51 K51
      refine W_ret ?_
      refine then_ret ?_
      clear k48 K48
      refine ⟨_, ⟨_, _, rfl, rfl, rfl⟩, ?_⟩
      exact ⟨50, (sealskinref05_Disk.mk (arr3_List_UInt8.mk x8_24 yd0_24.F_.e1_ yd0_24.F_.e2_) yd0_24.Room_ yd0_24.Off_ yd0_24.Fuse_), A8_24, c8_24, Ad0_24_2, cd0_24_2, Ad0_24_3, cd0_24_3, _, _, rfl, hI, htd0_24, hc46_, (hs46_.up hI.sub), hcd0_24_2, hsd0_24_2, hcd0_24_3, hsd0_24_3, h⟩
     ·
      replace h := h.2 hc50_
      refine W_skip ?_
      refine then_n (k48 _ _ ?_)
      clear k48 K48
      refine W_seq_k fun K52 k52 => ?_
      refine W_region [6] rfl (Ops_step (R_assign rfl) rfl rfl ?_)
      refine Ops_nil ?_
      refine then_n (k52 _ _ ?_)
      clear k52 K52
      refine W_ret ?_
      refine ⟨_, ⟨_, _, rfl, rfl, rfl⟩, ?_⟩
      exact ⟨0, (sealskinref05_Disk.mk (arr3_List_UInt8.mk x8_24 yd0_24.F_.e1_ yd0_24.F_.e2_) yd0_24.Room_ yd0_24.Off_ yd0_24.Fuse_), A8_24, c8_24, Ad0_24_2, cd0_24_2, Ad0_24_3, cd0_24_3, _, _, rfl, hI, htd0_24, hc46_, (hs46_.up hI.sub), hcd0_24_2, hsd0_24_2, hcd0_24_3, hsd0_24_3, h⟩
   ·
    replace h := h.2.1 hi20_
    refine Ops_step (R_indexArrK Try.underlying51 sz29 rfl rfl hi20_ (by decide)) rfl rfl ?_
    refine Ops_step (R_loadB (v := .slice Ad0_2 z0.F_.e1_.length cd0_2) ag29 rfl htd0.blk rfl) rfl rfl ?_
    have hk54_ := h.1
    replace h := h.2
    refine Ops_to (X_append (α := UInt8) (xs := ([] : List UInt8)) (ys := z0.F_.e1_) el29 rfl rfl ho19_ (Srcs.sc (Srcs.ofSl Try.underlying29 hsd0_2 hI.st (by decide))) hI.st hk54_ (by decide) hI.size) rfl rfl ?_
    rintro _ w53_ ⟨A53_, c53_, rfl, ho53_, hF53_, hbk53_⟩
    clear hbk53_
    replace hI := hI.tok hF53_ ho19_.out (ho19_.new (Nat.le_refl _))
    replace htd0 := htd0.fr hF53_ (ho19_.old hlt_d0)
    clear hF53_ ho19_
    refine Ops_step (R_assign rfl) rfl rfl ?_
    refine Ops_nil ?_
    refine then_n (k18 _ _ ?_)
    clear k18 K18
    refine W_keepB [0, 1, 2, 8] fun B_ b_ => ?_
    simp only [e_, Nat.reduceAdd, Nat.reduceBEq] at b_
    subst b_
    refine ex_ h fun J56_ hr56_ h => ?_
    refine W_seq_join [0, 1] [8] (fun vals_ w2 => ∃ (x8_56 : List UInt8) (A8_56 : Option Addr) (c8_56 : Nat) (yd0_56 : sealskinref05_Disk) (Ad0_56_1 : Option Addr) (cd0_56_1 : Nat) (Ad0_56_2 : Option Addr) (cd0_56_2 : Nat) (Ad0_56_3 : Option Addr) (cd0_56_3 : Nat) (L H : Gh), vals_ = [.slice A8_56 x8_56.length c8_56] ∧ J56_ x8_56 yd0_56 ∧ Inv [d0] G w L H w2 ∧ Le L130_ L ∧ Le H13_ H ∧ OwnS w.heap.size 5 Gh.no H w2 A8_56 c8_56 x8_56 ∧ Tok H w2 d0 81 ([.slice Ad0_56_1 yd0_56.F_.e0_.length cd0_56_1, .slice Ad0_56_2 yd0_56.F_.e1_.length cd0_56_2, .slice Ad0_56_3 yd0_56.F_.e2_.length cd0_56_3, vi yd0_56.Room_, .bool yd0_56.Off_, vi yd0_56.Fuse_]) ∧ yd0_56.F_.e0_.length ≤ cd0_56_1 ∧ Sl H Ad0_56_1 yd0_56.F_.e0_ ∧ yd0_56.F_.e1_.length ≤ cd0_56_2 ∧ Sl H Ad0_56_2 yd0_56.F_.e1_ ∧ yd0_56.F_.e2_.length ≤ cd0_56_3 ∧ Sl H Ad0_56_3 yd0_56.F_.e2_ ∧ True) (fun B_ b_ => ?_) (fun B_ b_ => ?_)
    ·
     simp only [e_, Nat.reduceAdd, Nat.reduceBEq] at b_
     subst b_
     clear hr56_
     have hll56_ := Le.refl L130_
     have hhh56_ := Le.refl H13_
     refine W_seq_k fun K57 k57 => ?_
     refine W_region [35, 36, 37] rfl (Ops_step (R_move rfl) rfl rfl (Ops_step (R_len Try.underlying29 rfl rfl) rfl rfl (Ops_step (R_move rfl) rfl rfl ?_)))
     refine Ops_nil ?_
     refine then_n (k57 _ _ ?_)
     clear k57 K57
     refine W_block ?_
     refine Exists.elim h fun I58_ h => Exists.elim h fun n58_ h => ?_
     have h0_ := h.1
     have hs58_ := h.2
     clear h
     refine W_loopB [0, 1, 35, 36] [8, 37] (fun m vals_ w2 => ∃ (x8_58 : List UInt8) (A8_58 : Option Addr) (c8_58 : Nat) (x37_58 : Int) (yd0_58 : sealskinref05_Disk) (Ad0_58_1 : Option Addr) (cd0_58_1 : Nat) (Ad0_58_2 : Option Addr) (cd0_58_2 : Nat) (Ad0_58_3 : Option Addr) (cd0_58_3 : Nat) (L H : Gh), vals_ = [.slice A8_58 x8_58.length c8_58, vi x37_58] ∧ I58_ m x8_58 x37_58 yd0_58 ∧ Inv [d0] G w L H w2 ∧ Le L130_ L ∧ Le H13_ H ∧ OwnS w.heap.size 5 Gh.no H w2 A8_58 c8_58 x8_58 ∧ Tok H w2 d0 81 ([.slice Ad0_58_1 yd0_58.F_.e0_.length cd0_58_1, .slice Ad0_58_2 yd0_58.F_.e1_.length cd0_58_2, .slice Ad0_58_3 yd0_58.F_.e2_.length cd0_58_3, vi yd0_58.Room_, .bool yd0_58.Off_, vi yd0_58.Fuse_]) ∧ yd0_58.F_.e0_.length ≤ cd0_58_1 ∧ Sl H Ad0_58_1 yd0_58.F_.e0_ ∧ yd0_58.F_.e1_.length ≤ cd0_58_2 ∧ Sl H Ad0_58_2 yd0_58.F_.e1_ ∧ yd0_58.F_.e2_.length ≤ cd0_58_3 ∧ Sl H Ad0_58_3 yd0_58.F_.e2_ ∧ True) n58_ _ rfl ⟨(([] : List UInt8) ++ z0.F_.e1_), A53_, c53_, 0, z0, Ad0_1, cd0_1, Ad0_2, cd0_2, Ad0_3, cd0_3, _, _, rfl, h0_, hI, Le.refl _, Le.refl _, ho53_, htd0, hcd0_1, hsd0_1, hcd0_2, hsd0_2, hcd0_3, hsd0_3, trivial⟩ fun B_ b_ => ?_
     clear h0_
     simp only [e_, Nat.reduceAdd, Nat.reduceBEq] at b_
     subst b_
     rintro m58_ _ w58_ ⟨x8_58, A8_58, c8_58, x37_58, yd0_58, Ad0_58_1, cd0_58_1, Ad0_58_2, cd0_58_2, Ad0_58_3, cd0_58_3, L58_, H58_, rfl, hJ58_, hI58_, hll58_, hhh58_, ho8_58, htd0_58, hcd0_58_1, hsd0_58_1, hcd0_58_2, hsd0_58_2, hcd0_58_3, hsd0_58_3, -⟩
     replace hI := hI58_
     clear hI58_
     have h := hs58_ m58_ x8_58 x37_58 yd0_58 hJ58_
     clear hs58_ hJ58_
     replace hs2 := hs2.up hhh58_
     replace hll56_ := hll56_.trans hll58_
     replace hhh56_ := hhh56_.trans hhh58_
     refine W_seq_k fun K59 k59 => ?_
     refine W_region [38] rfl (Ops_step (R_lss rfl rfl) rfl rfl ?_)
     refine Ops_nil ?_
     refine then_n (k59 _ _ ?_)
     clear k59 K59
     refine W_seq_k fun K60 k60 => ?_
     refine W_if rfl (fun hc61_ => ?_) (fun hc61_ => ?_)
     ·
      replace h := h.1 hc61_
      refine W_skip ?_
      refine then_n (k60 _ _ ?_)
      clear k60 K60
      refine W_seq_k fun K62 k62 => ?_
      refine W_block ?_
      refine W_seq_k fun K63 k63 => ?_
      refine W_region [39, 40, 10] rfl ?_
      refine ex_ h fun x64_ hx64_ h => ?_
      have ha64_ := (hs2.atS hx64_).1
      have hg64_ := (hs2.atS hx64_).2
      refine Ops_step (R_indexSl Try.underlying29 sz5 rfl rfl hx64_.1 hx64_.lt ha64_) rfl rfl (Ops_step (R_load ag5 rfl (hI.st _ _ hg64_)) rfl rfl (Ops_step (R_assign rfl) rfl rfl ?_))
      refine Ops_nil ?_
      refine then_n (k63 _ _ ?_)
      clear k63 K63
      refine W_seq_k fun K65 k65 => ?_
      refine W_seq_k fun K66 k66 => ?_
      refine W_region [41, 42, 43, 44] rfl (Ops_step (R_move rfl) rfl rfl (Ops_step (R_nilCheck rfl) rfl rfl (Ops_step (R_fieldAddr fo81_2 rfl) rfl rfl ?_)))
      refine Ops_step (R_loadB (v := .bool yd0_58.Off_) ag4 rfl htd0_58.blk rfl) rfl rfl ?_
      refine Ops_nil ?_
      refine then_n (k66 _ _ ?_)
      clear k66 K66
      refine W_keepB [0, 1, 8, 10, 35, 36, 37, 44] fun B_ b_ => ?_
      simp only [e_, Nat.reduceAdd, Nat.reduceBEq] at b_
      subst b_
      refine W_cond rfl (fun hc68_ => ?_) (fun hc68_ => ?_)
      ·
       replace h := h.1 hc68_
       refine W_exit ?_
       refine then_exit ?_
       clear k65 K65
       refine block_other rfl ?_
       refine then_exit ?_
       clear k62 K62
       refine then_exit ?_
       refine block_exit ?_
       refine then_n ?_
       exact ⟨_, rfl, ⟨x8_58, A8_58, c8_58, yd0_58, Ad0_58_1, cd0_58_1, Ad0_58_2, cd0_58_2, Ad0_58_3, cd0_58_3, _, _, rfl, h, hI, hll56_, hhh56_, ho8_58, htd0_58, hcd0_58_1, hsd0_58_1, hcd0_58_2, hsd0_58_2, hcd0_58_3, hsd0_58_3, trivial⟩, ⟨rfl, rfl, trivial⟩⟩
      ·
       replace h := h.2 hc68_
       refine W_skip ?_
       refine then_n (k65 _ _ ?_)
       clear k65 K65
       refine W_seq_k fun K69 k69 => ?_
       refine W_region [45, 46, 47, 48, 8] rfl (Ops_step (R_move rfl) rfl rfl (Ops_step (R_move rfl) rfl rfl ?_))
       have hlo70_ho8_58 := ho8_58.lt
       refine Ops_to (R_buildSlice el29 zr5 (by decide) (by decide) rfl rfl) rfl rfl ?_
       rintro _ w70_ ⟨b70_, rfl, hb70_, hB70_, hF70_⟩
       have ho70_ : OwnS w.heap.size 5 Gh.no H58_ _ (some ⟨b70_, 0, none⟩) 1 ([x64_] : List UInt8) := OwnS.ofBlk hI.st hb70_ hB70_ (all2_sc' _) rfl (by have := hI.size; omega) (by show 1 ≤ maxLen; decide)
       replace hI := hI.fr0 hF70_
       replace htd0_58 := htd0_58.fr0 hF70_
       replace ho8_58 := ho8_58.fr0 hF70_
       clear hF70_ hB70_
       have hsp70_ho8_58 : ∀ i ∈ bk (some ⟨b70_, 0, none⟩) 1, i ∉ bk A8_58 c8_58 := sep_new (fun i_ hi_ => by have := (bk_of hi_).1; simp only [blkOf, List.mem_singleton] at this; omega) hlo70_ho8_58
       have hk72_ := h.1
       replace h := h.2
       refine Ops_to (X_append (α := UInt8) (xs := x8_58) (ys := ([x64_] : List UInt8)) el29 rfl rfl ho8_58 (Srcs.sc (Srcs.ofOwn Try.underlying29 ho70_ (by decide))) hI.st hk72_ (by decide) hI.size) rfl rfl ?_
       rintro _ w71_ ⟨A71_, c71_, rfl, ho71_, hF71_, hbk71_⟩
       clear hbk71_
       replace hI := hI.tok hF71_ ho8_58.out (ho8_58.new (Nat.le_refl _))
       replace htd0_58 := htd0_58.fr hF71_ (ho8_58.old hlt_d0)
       clear hF71_ ho8_58
       refine Ops_step (R_assign rfl) rfl rfl ?_
       refine Ops_nil ?_
       refine then_n (k69 _ _ ?_)
       clear k69 K69
       refine W_keepB [0, 1, 8, 35, 36, 37] fun B_ b_ => ?_
       simp only [e_, Nat.reduceAdd, Nat.reduceBEq] at b_
       subst b_
       refine W_region [49, 50] rfl (Ops_step (R_move rfl) rfl rfl ?_)
       refine Ops_call (C_func bd54 rfl) rfl rfl ?_
       refine (sealskinref05_Disk_burn_ok (z0 := yd0_58) hI.st (hg.up hI.le) htd0_58 hcd0_58_1 hsd0_58_1 hcd0_58_2 hsd0_58_2 hcd0_58_3 hsd0_58_3 h).mono ?_
       rintro _ w74_ ⟨y74_o0, A74_o0_1, c74_o0_1, A74_o0_2, c74_o0_2, A74_o0_3, c74_o0_3, L74_, H74_, rfl, hI74_, ht74_o0, hc74_o0_1, hs74_o0_1, hc74_o0_2, hs74_o0_2, hc74_o0_3, hs74_o0_3, h⟩
       refine Exists.elim (hI.call hI74_ (mem1 (by simp))) fun L740_ h74_ => ?_
       have hz74_ := hI.size
       replace hI := h74_.1
       have u74_ := h74_.2.1
       have hl74_ := h74_.2.2
       clear h74_
       replace hs2 := hs2.up u74_.hh
       replace hll56_ := hll56_.trans u74_.ll
       replace hhh56_ := hhh56_.trans u74_.hh
       replace hsd0_58_1 := hsd0_58_1.up u74_.hh
       replace hsd0_58_2 := hsd0_58_2.up u74_.hh
       replace hsd0_58_3 := hsd0_58_3.up u74_.hh
       replace hll58_ := hll58_.trans u74_.ll
       replace hhh58_ := hhh58_.trans u74_.hh
       replace ho71_ := ho71_.up (Le.refl _) u74_ (ho71_.oldt hlt_d0)
       clear htd0_58
       clear hI74_ u74_ hl74_
       refine ⟨_, rfl, ?_⟩
       refine Ops_nil ?_
       refine block_n ?_
       refine then_n (k62 _ _ ?_)
       clear k62 K62
       refine W_region [51, 37] rfl ?_
       have hk75_ := h.1
       replace h := h.2
       refine Ops_step (R_add rfl rfl (wI hk75_.1 hk75_.2)) rfl rfl (Ops_step (R_move rfl) rfl rfl ?_)
       refine Ops_nil ?_
       refine then_n ?_
       exact h.elim fun m_ h => ⟨m_, _, h.1, rfl, ⟨(x8_58 ++ ([x64_] : List UInt8)), A71_, c71_, (x37_58 + 1), y74_o0, A74_o0_1, c74_o0_1, A74_o0_2, c74_o0_2, A74_o0_3, c74_o0_3, _, _, rfl, h.2, hI, hll58_, hhh58_, ho71_, ht74_o0, hc74_o0_1, hs74_o0_1, hc74_o0_2, hs74_o0_2, hc74_o0_3, hs74_o0_3, trivial⟩, ⟨rfl, rfl, rfl, rfl, trivial⟩⟩
     ·
      replace h := h.2 hc61_
      refine W_exit ?_
      refine then_exit ?_
      clear k60 K60
      refine then_exit ?_
      refine block_exit ?_
      refine then_n ?_
      exact ⟨_, rfl, ⟨x8_58, A8_58, c8_58, yd0_58, Ad0_58_1, cd0_58_1, Ad0_58_2, cd0_58_2, Ad0_58_3, cd0_58_3, _, _, rfl, h, hI, hll56_, hhh56_, ho8_58, htd0_58, hcd0_58_1, hsd0_58_1, hcd0_58_2, hsd0_58_2, hcd0_58_3, hsd0_58_3, trivial⟩, ⟨rfl, rfl, trivial⟩⟩
    ·
     simp only [e_, Nat.reduceAdd, Nat.reduceBEq] at b_
     subst b_
     clear h
     rintro _ w56_ ⟨x8_56, A8_56, c8_56, yd0_56, Ad0_56_1, cd0_56_1, Ad0_56_2, cd0_56_2, Ad0_56_3, cd0_56_3, L56_, H56_, rfl, hJ56_, hI56_, hll56_, hhh56_, ho8_56, htd0_56, hcd0_56_1, hsd0_56_1, hcd0_56_2, hsd0_56_2, hcd0_56_3, hsd0_56_3, -⟩
     replace hI := hI56_
     clear hI56_
     have h := hr56_ x8_56 yd0_56 hJ56_
     clear hr56_ hJ56_
     refine W_seq_k fun K76 k76 => ?_
     refine W_region [52, 53, 54, 55, 56, 57, none] rfl (Ops_step (R_move rfl) rfl rfl (Ops_step (R_move rfl) rfl rfl (Ops_step (R_move rfl) rfl rfl (Ops_step (R_nilCheck rfl) rfl rfl ?_))))
     refine Ops_step (R_fieldAddr fo81_0 rfl) rfl rfl (Ops_step (R_indexArrK Try.underlying51 sz29 rfl rfl hi20_ (by decide)) rfl rfl ?_)
     refine Exists.elim (ho8_56.freeze hI) fun L78_ h78_ => Exists.elim h78_ fun H78_ h78_ => ?_
     replace hI := h78_.1
     have u78_ := h78_.2.1
     have hs78_ := h78_.2.2.1 (Le.no _)
     have hc78_ := ho8_56.cap
     replace htd0_56 := htd0_56.up u78_ (ho8_56.old hlt_d0)
     replace hsd0_56_1 := hsd0_56_1.up u78_.hh
     replace hsd0_56_2 := hsd0_56_2.up u78_.hh
     replace hsd0_56_3 := hsd0_56_3.up u78_.hh
     clear h78_ u78_ ho8_56
     refine Ops_to0 (R_store sz29 rfl rfl htd0_56.blk (by show 1 < 6; decide) rfl) rfl ?_
     rintro _ w77_ ⟨hB77_, hF77_⟩
     replace hI := hI.tok hF77_ (out1 htd0_56.out) (mem1 (by simp))
     replace htd0_56 : Tok H78_ _ d0 81 ([.slice Ad0_56_1 yd0_56.F_.e0_.length cd0_56_1, .slice A8_56 x8_56.length c8_56, .slice Ad0_56_3 yd0_56.F_.e2_.length cd0_56_3, vi yd0_56.Room_, .bool yd0_56.Off_, vi yd0_56.Fuse_]) := ⟨hB77_, htd0_56.out⟩
     clear hF77_ hB77_
     refine Ops_nil ?_
     refine then_n (k76 _ _ ?_)
     clear k76 K76
     refine W_keepB [0] fun B_ b_ => ?_
     simp only [e_, Nat.reduceAdd, Nat.reduceBEq] at b_
     subst b_
     refine W_seq_k fun K80 k80 => ?_
     refine W_seq_k fun K81 k81 => ?_
     refine W_region [58, 59, 60, 61] rfl (Ops_step (R_move rfl) rfl rfl (Ops_step (R_nilCheck rfl) rfl rfl (Ops_step (R_fieldAddr fo81_2 rfl) rfl rfl ?_)))
     refine Ops_step (R_loadB (v := .bool yd0_56.Off_) ag4 rfl htd0_56.blk rfl) rfl rfl ?_
     refine Ops_nil ?_
     refine then_n (k81 _ _ ?_)
     clear k81 K81
     refine W_cond rfl (fun hc82_ => ?_) (fun hc82_ => ?_)
     ·
      replace h := h.1 hc82_
      refine W_seq_k fun K83 k83 => ?_
      refine W_region [6] rfl (Ops_step (R_assign rfl) rfl rfl ?_)
      refine Ops_nil ?_
      refine then_n (k83 _ _ ?_)
      clear k83 K83
      refine W_ret ?_
      refine then_ret ?_
      clear k80 K80
      refine ⟨_, ⟨_, _, rfl, rfl, rfl⟩, ?_⟩
      exact ⟨50, (sealskinref05_Disk.mk (arr3_List_UInt8.mk yd0_56.F_.e0_ x8_56 yd0_56.F_.e2_) yd0_56.Room_ yd0_56.Off_ yd0_56.Fuse_), Ad0_56_1, cd0_56_1, A8_56, c8_56, Ad0_56_3, cd0_56_3, _, _, rfl, hI, htd0_56, hcd0_56_1, hsd0_56_1, hc78_, (hs78_.up hI.sub), hcd0_56_3, hsd0_56_3, h⟩
     ·
      replace h := h.2 hc82_
      refine W_skip ?_
      refine then_n (k80 _ _ ?_)
      clear k80 K80
      refine W_seq_k fun K84 k84 => ?_
      refine W_region [6] rfl (Ops_step (R_assign rfl) rfl rfl ?_)
      refine Ops_nil ?_
      refine then_n (k84 _ _ ?_)
      clear k84 K84
      refine W_ret ?_
      refine ⟨_, ⟨_, _, rfl, rfl, rfl⟩, ?_⟩
      exact ⟨0, (sealskinref05_Disk.mk (arr3_List_UInt8.mk yd0_56.F_.e0_ x8_56 yd0_56.F_.e2_) yd0_56.Room_ yd0_56.Off_ yd0_56.Fuse_), Ad0_56_1, cd0_56_1, A8_56, c8_56, Ad0_56_3, cd0_56_3, _, _, rfl, hI, htd0_56, hcd0_56_1, hsd0_56_1, hc78_, (hs78_.up hI.sub), hcd0_56_3, hsd0_56_3, h⟩
   ·
    replace h := h.2.2 hi20_
    refine Ops_step (R_indexArrK Try.underlying51 sz29 rfl rfl hi20_ (by decide)) rfl rfl ?_
    refine Ops_step (R_loadB (v := .slice Ad0_3 z0.F_.e2_.length cd0_3) ag29 rfl htd0.blk rfl) rfl rfl ?_
    have hk86_ := h.1
    replace h := h.2
    refine Ops_to (X_append (α := UInt8) (xs := ([] : List UInt8)) (ys := z0.F_.e2_) el29 rfl rfl ho19_ (Srcs.sc (Srcs.ofSl Try.underlying29 hsd0_3 hI.st (by decide))) hI.st hk86_ (by decide) hI.size) rfl rfl ?_
    rintro _ w85_ ⟨A85_, c85_, rfl, ho85_, hF85_, hbk85_⟩
    clear hbk85_
    replace hI := hI.tok hF85_ ho19_.out (ho19_.new (Nat.le_refl _))
    replace htd0 := htd0.fr hF85_ (ho19_.old hlt_d0)
    clear hF85_ ho19_
    refine Ops_step (R_assign rfl) rfl rfl ?_
    refine Ops_nil ?_
    refine then_n (k18 _ _ ?_)
    clear k18 K18
    refine W_keepB [0, 1, 2, 8] fun B_ b_ => ?_
    simp only [e_, Nat.reduceAdd, Nat.reduceBEq] at b_
    subst b_
    refine ex_ h fun J88_ hr88_ h => ?_
    refine W_seq_join [0, 1] [8] (fun vals_ w2 => ∃ (x8_88 : List UInt8) (A8_88 : Option Addr) (c8_88 : Nat) (yd0_88 : sealskinref05_Disk) (Ad0_88_1 : Option Addr) (cd0_88_1 : Nat) (Ad0_88_2 : Option Addr) (cd0_88_2 : Nat) (Ad0_88_3 : Option Addr) (cd0_88_3 : Nat) (L H : Gh), vals_ = [.slice A8_88 x8_88.length c8_88] ∧ J88_ x8_88 yd0_88 ∧ Inv [d0] G w L H w2 ∧ Le L130_ L ∧ Le H13_ H ∧ OwnS w.heap.size 5 Gh.no H w2 A8_88 c8_88 x8_88 ∧ Tok H w2 d0 81 ([.slice Ad0_88_1 yd0_88.F_.e0_.length cd0_88_1, .slice Ad0_88_2 yd0_88.F_.e1_.length cd0_88_2, .slice Ad0_88_3 yd0_88.F_.e2_.length cd0_88_3, vi yd0_88.Room_, .bool yd0_88.Off_, vi yd0_88.Fuse_]) ∧ yd0_88.F_.e0_.length ≤ cd0_88_1 ∧ Sl H Ad0_88_1 yd0_88.F_.e0_ ∧ yd0_88.F_.e1_.length ≤ cd0_88_2 ∧ Sl H Ad0_88_2 yd0_88.F_.e1_ ∧ yd0_88.F_.e2_.length ≤ cd0_88_3 ∧ Sl H Ad0_88_3 yd0_88.F_.e2_ ∧ True) (fun B_ b_ => ?_) (fun B_ b_ => ?_)
    ·
     simp only [e_, Nat.reduceAdd, Nat.reduceBEq] at b_
     subst b_
     clear hr88_
     have hll88_ := Le.refl L130_
     have hhh88_ := Le.refl H13_
     refine W_seq_k fun K89 k89 => ?_
     refine W_region [35, 36, 37] rfl (Ops_step (R_move rfl) rfl rfl (Ops_step (R_len Try.underlying29 rfl rfl) rfl rfl (Ops_step (R_move rfl) rfl rfl ?_)))
     refine Ops_nil ?_
     refine then_n (k89 _ _ ?_)
     clear k89 K89
     refine W_block ?_
     refine Exists.elim h fun I90_ h => Exists.elim h fun n90_ h => ?_
     have h0_ := h.1
     have hs90_ := h.2
     clear h
     refine W_loopB [0, 1, 35, 36] [8, 37] (fun m vals_ w2 => ∃ (x8_90 : List UInt8) (A8_90 : Option Addr) (c8_90 : Nat) (x37_90 : Int) (yd0_90 : sealskinref05_Disk) (Ad0_90_1 : Option Addr) (cd0_90_1 : Nat) (Ad0_90_2 : Option Addr) (cd0_90_2 : Nat) (Ad0_90_3 : Option Addr) (cd0_90_3 : Nat) (L H : Gh), vals_ = [.slice A8_90 x8_90.length c8_90, vi x37_90] ∧ I90_ m x8_90 x37_90 yd0_90 ∧ Inv [d0] G w L H w2 ∧ Le L130_ L ∧ Le H13_ H ∧ OwnS w.heap.size 5 Gh.no H w2 A8_90 c8_90 x8_90 ∧ Tok H w2 d0 81 ([.slice Ad0_90_1 yd0_90.F_.e0_.length cd0_90_1, .slice Ad0_90_2 yd0_90.F_.e1_.length cd0_90_2, .slice Ad0_90_3 yd0_90.F_.e2_.length cd0_90_3, vi yd0_90.Room_, .bool yd0_90.Off_, vi yd0_90.Fuse_]) ∧ yd0_90.F_.e0_.length ≤ cd0_90_1 ∧ Sl H Ad0_90_1 yd0_90.F_.e0_ ∧ yd0_90.F_.e1_.length ≤ cd0_90_2 ∧ Sl H Ad0_90_2 yd0_90.F_.e1_ ∧ yd0_90.F_.e2_.length ≤ cd0_90_3 ∧ Sl H Ad0_90_3 yd0_90.F_.e2_ ∧ True) n90_ _ rfl ⟨(([] : List UInt8) ++ z0.F_.e2_), A85_, c85_, 0, z0, Ad0_1, cd0_1, Ad0_2, cd0_2, Ad0_3, cd0_3, _, _, rfl, h0_, hI, Le.refl _, Le.refl _, ho85_, htd0, hcd0_1, hsd0_1, hcd0_2, hsd0_2, hcd0_3, hsd0_3, trivial⟩ fun B_ b_ => ?_
     clear h0_
     simp only [e_, Nat.reduceAdd, Nat.reduceBEq] at b_
     subst b_
     rintro m90_ _ w90_ ⟨x8_90, A8_90, c8_90, x37_90, yd0_90, Ad0_90_1, cd0_90_1, Ad0_90_2, cd0_90_2, Ad0_90_3, cd0_90_3, L90_, H90_, rfl, hJ90_, hI90_, hll90_, hhh90_, ho8_90, htd0_90, hcd0_90_1, hsd0_90_1, hcd0_90_2, hsd0_90_2, hcd0_90_3, hsd0_90_3, -⟩
     replace hI := hI90_
     clear hI90_
     have h := hs90_ m90_ x8_90 x37_90 yd0_90 hJ90_
     clear hs90_ hJ90_
     replace hs2 := hs2.up hhh90_
     replace hll88_ := hll88_.trans hll90_
     replace hhh88_ := hhh88_.trans hhh90_
     refine W_seq_k fun K91 k91 => ?_
     refine W_region [38] rfl (Ops_step (R_lss rfl rfl) rfl rfl ?_)
     refine Ops_nil ?_
     refine then_n (k91 _ _ ?_)
     clear k91 K91
     refine W_seq_k fun K92 k92 => ?_
     refine W_if rfl (fun hc93_ => ?_) (fun hc93_ => ?_)
     ·
      replace h := h.1 hc93_
      refine W_skip ?_
      refine then_n (k92 _ _ ?_)
      clear k92 K92
      refine W_seq_k fun K94 k94 => ?_
      refine W_block ?_
      refine W_seq_k fun K95 k95 => ?_
      refine W_region [39, 40, 10] rfl ?_
      refine ex_ h fun x96_ hx96_ h => ?_
      have ha96_ := (hs2.atS hx96_).1
      have hg96_ := (hs2.atS hx96_).2
      refine Ops_step (R_indexSl Try.underlying29 sz5 rfl rfl hx96_.1 hx96_.lt ha96_) rfl rfl (Ops_step (R_load ag5 rfl (hI.st _ _ hg96_)) rfl rfl (Ops_step (R_assign rfl) rfl rfl ?_))
      refine Ops_nil ?_
      refine then_n (k95 _ _ ?_)
      clear k95 K95
      refine W_seq_k fun K97 k97 => ?_
      refine W_seq_k fun K98 k98 => ?_
      refine W_region [41, 42, 43, 44] rfl (Ops_step (R_move rfl) rfl rfl (Ops_step (R_nilCheck rfl) rfl rfl (Ops_step (R_fieldAddr fo81_2 rfl) rfl rfl ?_)))
      refine Ops_step (R_loadB (v := .bool yd0_90.Off_) ag4 rfl htd0_90.blk rfl) rfl rfl ?_
      refine Ops_nil ?_
      refine then_n (k98 _ _ ?_)
      clear k98 K98
      refine W_keepB [0, 1, 8, 10, 35, 36, 37, 44] fun B_ b_ => ?_
      simp only [e_, Nat.reduceAdd, Nat.reduceBEq] at b_
      subst b_
      refine W_cond rfl (fun hc100_ => ?_) (fun hc100_ => ?_)
      ·
       replace h := h.1 hc100_
       refine W_exit ?_
       refine then_exit ?_
       clear k97 K97
       refine block_other rfl ?_
       refine then_exit ?_
       clear k94 K94
       refine then_exit ?_
       refine block_exit ?_
       refine then_n ?_
       exact ⟨_, rfl, ⟨x8_90, A8_90, c8_90, yd0_90, Ad0_90_1, cd0_90_1, Ad0_90_2, cd0_90_2, Ad0_90_3, cd0_90_3, _, _, rfl, h, hI, hll88_, hhh88_, ho8_90, htd0_90, hcd0_90_1, hsd0_90_1, hcd0_90_2, hsd0_90_2, hcd0_90_3, hsd0_90_3, trivial⟩, ⟨rfl, rfl, trivial⟩⟩
      ·
       replace h := h.2 hc100_
       refine W_skip ?_
       refine then_n (k97 _ _ ?_)
       clear k97 K97
       refine W_seq_k fun K101 k101 => ?_
       refine W_region [45, 46, 47, 48, 8] rfl (Ops_step (R_move rfl) rfl rfl (Ops_step (R_move rfl) rfl rfl ?_))
       have hlo102_ho8_90 := ho8_90.lt
       refine Ops_to (R_buildSlice el29 zr5 (by decide) (by decide) rfl rfl) rfl rfl ?_
       rintro _ w102_ ⟨b102_, rfl, hb102_, hB102_, hF102_⟩
       have ho102_ : OwnS w.heap.size 5 Gh.no H90_ _ (some ⟨b102_, 0, none⟩) 1 ([x96_] : List UInt8) := OwnS.ofBlk hI.st hb102_ hB102_ (all2_sc' _) rfl (by have := hI.size; omega) (by show 1 ≤ maxLen; decide)
       replace hI := hI.fr0 hF102_
       replace htd0_90 := htd0_90.fr0 hF102_
       replace ho8_90 := ho8_90.fr0 hF102_
       clear hF102_ hB102_
       have hsp102_ho8_90 : ∀ i ∈ bk (some ⟨b102_, 0, none⟩) 1, i ∉ bk A8_90 c8_90 := sep_new (fun i_ hi_ => by have := (bk_of hi_).1; simp only [blkOf, List.mem_singleton] at this; omega) hlo102_ho8_90
       have hk104_ := h.1
       replace h := h.2
       refine Ops_to (X_append (α := UInt8) (xs := x8_90) (ys := ([x96_] : List UInt8)) el29 rfl rfl ho8_90 (Srcs.sc (Srcs.ofOwn Try.underlying29 ho102_ (by decide))) hI.st hk104_ (by decide) hI.size) rfl rfl ?_
       rintro _ w103_ ⟨A103_, c103_, rfl, ho103_, hF103_, hbk103_⟩
       clear hbk103_
       replace hI := hI.tok hF103_ ho8_90.out (ho8_90.new (Nat.le_refl _))
       replace htd0_90 := htd0_90.fr hF103_ (ho8_90.old hlt_d0)
       clear hF103_ ho8_90
       refine Ops_step (R_assign rfl) rfl rfl ?_
       refine Ops_nil ?_
       refine then_n (k101 _ _ ?_)
       clear k101 K101
       refine W_keepB [0, 1, 8, 35, 36, 37] fun B_ b_ => ?_
       simp only [e_, Nat.reduceAdd, Nat.reduceBEq] at b_
       subst b_
       refine W_region [49, 50] rfl (Ops_step (R_move rfl) rfl rfl ?_)
       refine Ops_call (C_func bd54 rfl) rfl rfl ?_
       refine (sealskinref05_Disk_burn_ok (z0 := yd0_90) hI.st (hg.up hI.le) htd0_90 hcd0_90_1 hsd0_90_1 hcd0_90_2 hsd0_90_2 hcd0_90_3 hsd0_90_3 h).mono ?_
       rintro _ w106_ ⟨y106_o0, A106_o0_1, c106_o0_1, A106_o0_2, c106_o0_2, A106_o0_3, c106_o0_3, L106_, H106_, rfl, hI106_, ht106_o0, hc106_o0_1, hs106_o0_1, hc106_o0_2, hs106_o0_2, hc106_o0_3, hs106_o0_3, h⟩
       refine Exists.elim (hI.call hI106_ (mem1 (by simp))) fun L1060_ h106_ => ?_
       have hz106_ := hI.size
       replace hI := h106_.1
       have u106_ := h106_.2.1
       have hl106_ := h106_.2.2
       clear h106_
       replace hs2 := hs2.up u106_.hh
       replace hll88_ := hll88_.trans u106_.ll
       replace hhh88_ := hhh88_.trans u106_.hh
       replace hsd0_90_1 := hsd0_90_1.up u106_.hh
       replace hsd0_90_2 := hsd0_90_2.up u106_.hh
       replace hsd0_90_3 := hsd0_90_3.up u106_.hh
       replace hll90_ := hll90_.trans u106_.ll
       replace hhh90_ := hhh90_.trans u106_.hh
       replace ho103_ := ho103_.up (Le.refl _) u106_ (ho103_.oldt hlt_d0)
       clear htd0_90
       clear hI106_ u106_ hl106_
       refine ⟨_, rfl, ?_⟩
       refine Ops_nil ?_
       refine block_n ?_
       refine then_n (k94 _ _ ?_)
       clear k94 K94
       refine W_region [51, 37] rfl ?_
       have hk107_ := h.1
       replace h := h.2
       refine Ops_step (R_add rfl rfl (wI hk107_.1 hk107_.2)) rfl rfl (Ops_step (R_move rfl) rfl rfl ?_)
       refine Ops_nil ?_
       refine then_n ?_
       exact h.elim fun m_ h => ⟨m_, _, h.1, rfl, ⟨(x8_90 ++ ([x96_] : List UInt8)), A103_, c103_, (x37_90 + 1), y106_o0, A106_o0_1, c106_o0_1, A106_o0_2, c106_o0_2, A106_o0_3, c106_o0_3, _, _, rfl, h.2, hI, hll90_, hhh90_, ho103_, ht106_o0, hc106_o0_1, hs106_o0_1, hc106_o0_2, hs106_o0_2, hc106_o0_3, hs106_o0_3, trivial⟩, ⟨rfl, rfl, rfl, rfl, trivial⟩⟩
     ·
      replace h := h.2 hc93_
      refine W_exit ?_
      refine then_exit ?_
      clear k92 K92
      refine then_exit ?_
      refine block_exit ?_
      refine then_n ?_
      exact ⟨_, rfl, ⟨x8_90, A8_90, c8_90, yd0_90, Ad0_90_1, cd0_90_1, Ad0_90_2, cd0_90_2, Ad0_90_3, cd0_90_3, _, _, rfl, h, hI, hll88_, hhh88_, ho8_90, htd0_90, hcd0_90_1, hsd0_90_1, hcd0_90_2, hsd0_90_2, hcd0_90_3, hsd0_90_3, trivial⟩, ⟨rfl, rfl, trivial⟩⟩
    ·
     simp only [e_, Nat.reduceAdd, Nat.reduceBEq] at b_
     subst b_
     clear h
     rintro _ w88_ ⟨x8_88, A8_88, c8_88, yd0_88, Ad0_88_1, cd0_88_1, Ad0_88_2, cd0_88_2, Ad0_88_3, cd0_88_3, L88_, H88_, rfl, hJ88_, hI88_, hll88_, hhh88_, ho8_88, htd0_88, hcd0_88_1, hsd0_88_1, hcd0_88_2, hsd0_88_2, hcd0_88_3, hsd0_88_3, -⟩
     replace hI := hI88_
     clear hI88_
     have h := hr88_ x8_88 yd0_88 hJ88_
     clear hr88_ hJ88_
     refine W_seq_k fun K108 k108 => ?_
     refine W_region [52, 53, 54, 55, 56, 57, none] rfl (Ops_step (R_move rfl) rfl rfl (Ops_step (R_move rfl) rfl rfl (Ops_step (R_move rfl) rfl rfl (Ops_step (R_nilCheck rfl) rfl rfl ?_))))
     refine Ops_step (R_fieldAddr fo81_0 rfl) rfl rfl (Ops_step (R_indexArrK Try.underlying51 sz29 rfl rfl hi20_ (by decide)) rfl rfl ?_)
     refine Exists.elim (ho8_88.freeze hI) fun L110_ h110_ => Exists.elim h110_ fun H110_ h110_ => ?_
     replace hI := h110_.1
     have u110_ := h110_.2.1
     have hs110_ := h110_.2.2.1 (Le.no _)
     have hc110_ := ho8_88.cap
     replace htd0_88 := htd0_88.up u110_ (ho8_88.old hlt_d0)
     replace hsd0_88_1 := hsd0_88_1.up u110_.hh
     replace hsd0_88_2 := hsd0_88_2.up u110_.hh
     replace hsd0_88_3 := hsd0_88_3.up u110_.hh
     clear h110_ u110_ ho8_88
     refine Ops_to0 (R_store sz29 rfl rfl htd0_88.blk (by show 2 < 6; decide) rfl) rfl ?_
     rintro _ w109_ ⟨hB109_, hF109_⟩
     replace hI := hI.tok hF109_ (out1 htd0_88.out) (mem1 (by simp))
     replace htd0_88 : Tok H110_ _ d0 81 ([.slice Ad0_88_1 yd0_88.F_.e0_.length cd0_88_1, .slice Ad0_88_2 yd0_88.F_.e1_.length cd0_88_2, .slice A8_88 x8_88.length c8_88, vi yd0_88.Room_, .bool yd0_88.Off_, vi yd0_88.Fuse_]) := ⟨hB109_, htd0_88.out⟩
     clear hF109_ hB109_
     refine Ops_nil ?_
     refine then_n (k108 _ _ ?_)
     clear k108 K108
     refine W_keepB [0] fun B_ b_ => ?_
     simp only [e_, Nat.reduceAdd, Nat.reduceBEq] at b_
     subst b_
     refine W_seq_k fun K112 k112 => ?_
     refine W_seq_k fun K113 k113 => ?_
     refine W_region [58, 59, 60, 61] rfl (Ops_step (R_move rfl) rfl rfl (Ops_step (R_nilCheck rfl) rfl rfl (Ops_step (R_fieldAddr fo81_2 rfl) rfl rfl ?_)))
     refine Ops_step (R_loadB (v := .bool yd0_88.Off_) ag4 rfl htd0_88.blk rfl) rfl rfl ?_
     refine Ops_nil ?_
     refine then_n (k113 _ _ ?_)
     clear k113 K113
     refine W_cond rfl (fun hc114_ => ?_) (fun hc114_ => ?_)
     ·
      replace h := h.1 hc114_
      refine W_seq_k fun K115 k115 => ?_
      refine W_region [6] rfl (Ops_step (R_assign rfl) rfl rfl ?_)
      refine Ops_nil ?_
      refine then_n (k115 _ _ ?_)
      clear k115 K115
      refine W_ret ?_
      refine then_ret ?_
      clear k112 K112
      refine ⟨_, ⟨_, _, rfl, rfl, rfl⟩, ?_⟩
      exact ⟨50, (sealskinref05_Disk.mk (arr3_List_UInt8.mk yd0_88.F_.e0_ yd0_88.F_.e1_ x8_88) yd0_88.Room_ yd0_88.Off_ yd0_88.Fuse_), Ad0_88_1, cd0_88_1, Ad0_88_2, cd0_88_2, A8_88, c8_88, _, _, rfl, hI, htd0_88, hcd0_88_1, hsd0_88_1, hcd0_88_2, hsd0_88_2, hc110_, (hs110_.up hI.sub), h⟩
     ·
      replace h := h.2 hc114_
      refine W_skip ?_
      refine then_n (k112 _ _ ?_)
      clear k112 K112
      refine W_seq_k fun K116 k116 => ?_
      refine W_region [6] rfl (Ops_step (R_assign rfl) rfl rfl ?_)
      refine Ops_nil ?_
      refine then_n (k116 _ _ ?_)
      clear k116 K116
      refine W_ret ?_
      refine ⟨_, ⟨_, _, rfl, rfl, rfl⟩, ?_⟩
      exact ⟨0, (sealskinref05_Disk.mk (arr3_List_UInt8.mk yd0_88.F_.e0_ yd0_88.F_.e1_ x8_88) yd0_88.Room_ yd0_88.Off_ yd0_88.Fuse_), Ad0_88_1, cd0_88_1, Ad0_88_2, cd0_88_2, A8_88, c8_88, _, _, rfl, hI, htd0_88, hcd0_88_1, hsd0_88_1, hcd0_88_2, hsd0_88_2, hc110_, (hs110_.up hI.sub), h⟩

theorem sealskinref05_Disk_Read_ok {G : Gh} {w : World} (hS : St G w) (hg : GL G) {d0 : Nat} {z0 : sealskinref05_Disk} {Ad0_1 : Option Addr} {cd0_1 : Nat} {Ad0_2 : Option Addr} {cd0_2 : Nat} {Ad0_3 : Option Addr} {cd0_3 : Nat} (htd0 : Tok G w d0 81 ([.slice Ad0_1 z0.F_.e0_.length cd0_1, .slice Ad0_2 z0.F_.e1_.length cd0_2, .slice Ad0_3 z0.F_.e2_.length cd0_3, vi z0.Room_, .bool z0.Off_, vi z0.Fuse_])) (hcd0_1 : z0.F_.e0_.length ≤ cd0_1) (hsd0_1 : Sl G Ad0_1 z0.F_.e0_) (hcd0_2 : z0.F_.e1_.length ≤ cd0_2) (hsd0_2 : Sl G Ad0_2 z0.F_.e1_) (hcd0_3 : z0.F_.e2_.length ≤ cd0_3) (hsd0_3 : Sl G Ad0_3 z0.F_.e2_) {x1 : Int} {Q : (List UInt8) → Int → Prop} (h : sealskinref05_Disk_Read z0 x1 Q) : Calls Try.prog 55 #[.pointer (some ⟨d0, 0, none⟩), vi x1] w fun e w2 => ∃ (A0 : Option Addr) (c0 : Nat) (r0 : List UInt8) (r1 : Int) (L H : Gh), e = .returned (.tuple #[.slice A0 r0.length c0, vi r1]) ∧ Inv [] G w L H w2 ∧ r0.length ≤ c0 ∧ Sl H A0 r0 ∧ Q r0 r1 := by
 unfold sealskinref05_Disk_Read at h
 have hI := Inv.start (M := []) hS
 refine calls_W 19 Try.func55 rfl Try.ntmps55 rfl [.tmp 4, .tmp 5] rfl ?_
 have hlt_d0 := htd0.blk.lt
 refine W_seq_k fun K1 k1 => ?_
 refine W_region [4, 5] rfl (Ops_step (R_assign rfl) rfl rfl (Ops_step (R_assign rfl) rfl rfl ?_))
 refine Ops_nil ?_
 refine then_n (k1 _ _ ?_)
 clear k1 K1
 refine W_seq_k fun K2 k2 => ?_
 refine W_seq_k fun K3 k3 => ?_
 refine W_region [7, 8, 9, 6] rfl (Ops_step (R_move rfl) rfl rfl (Ops_step (R_move rfl) rfl rfl ?_))
 refine Ops_call (C_func bd52 rfl) rfl rfl ?_
 refine (sealskinref05_Disk_may_ok (x1 := x1) (z0 := z0) hI.st (hg.up hI.le) htd0 hcd0_1 hsd0_1 hcd0_2 hsd0_2 hcd0_3 hsd0_3 h).mono ?_
 rintro _ w4_ ⟨r4_0, L4_, H4_, rfl, hI4_, h⟩
 refine Exists.elim (hI.call hI4_ (by simp)) fun L40_ h4_ => ?_
 have hz4_ := hI.size
 replace hI := h4_.1
 have u4_ := h4_.2.1
 have hl4_ := h4_.2.2
 clear h4_
 replace hsd0_1 := hsd0_1.up u4_.hh
 replace hsd0_2 := hsd0_2.up u4_.hh
 replace hsd0_3 := hsd0_3.up u4_.hh
 replace htd0 := htd0.up u4_ (by simp)
 clear hI4_ u4_ hl4_
 refine ⟨_, rfl, ?_⟩
 refine Ops_step (R_assign rfl) rfl rfl ?_
 refine Ops_nil ?_
 refine then_n (k3 _ _ ?_)
 clear k3 K3
 refine W_seq_k fun K5 k5 => ?_
 refine W_region [10, 11] rfl (Ops_step (R_move rfl) rfl rfl (Ops_step (R_neq rfl rfl) rfl rfl ?_))
 refine Ops_nil ?_
 refine then_n (k5 _ _ ?_)
 clear k5 K5
 refine W_keepB [0, 1, 6, 11] fun B_ b_ => ?_
 simp only [e_, Nat.reduceAdd, Nat.reduceBEq] at b_
 subst b_
 refine W_if rfl (fun hc7_ => ?_) (fun hc7_ => ?_)
 ·
  replace h := h.1 hc7_
  refine W_seq_k fun K8 k8 => ?_
  refine W_region [12, 4, 5] rfl (Ops_step (R_move rfl) rfl rfl (Ops_step (R_assign rfl) rfl rfl (Ops_step (R_assign rfl) rfl rfl ?_)))
  refine Ops_nil ?_
  refine then_n (k8 _ _ ?_)
  clear k8 K8
  refine W_ret ?_
  refine then_ret ?_
  clear k2 K2
  refine ⟨_, ⟨_, _, rfl, rfl, ⟨_, _, rfl, rfl, rfl⟩⟩, ?_⟩
  exact ⟨none, 0, [], r4_0, _, _, rfl, hI, (Nat.le_refl 0), Sl.nil, h⟩
 ·
  replace h := h.2 hc7_
  refine W_skip ?_
  refine then_n (k2 _ _ ?_)
  clear k2 K2
  refine W_seq_k fun K9 k9 => ?_
  refine W_region [13, 14, 15, 16, 17, 18, 4, 5] rfl (Ops_step (R_move rfl) rfl rfl (Ops_step (R_move rfl) rfl rfl (Ops_step (R_nilCheck rfl) rfl rfl (Ops_step (R_fieldAddr fo81_0 rfl) rfl rfl ?_))))
  have hk10_ := h.1
  replace h := h.2
  refine split3 hk10_ (fun hi10_ => ?_) (fun hi10_ => ?_) (fun hi10_ => ?_)
  ·
   replace h := h.1 hi10_
   refine Ops_step (R_indexArrK Try.underlying51 sz29 rfl rfl hi10_ (by decide)) rfl rfl ?_
   refine Ops_step (R_loadB (v := .slice Ad0_1 z0.F_.e0_.length cd0_1) ag29 rfl htd0.blk rfl) rfl rfl ?_
   refine Ops_step (R_assign rfl) rfl rfl (Ops_step (R_assign rfl) rfl rfl ?_)
   refine Ops_nil ?_
   refine then_n (k9 _ _ ?_)
   clear k9 K9
   refine W_keepB [4, 5] fun B_ b_ => ?_
   simp only [e_, Nat.reduceAdd, Nat.reduceBEq] at b_
   subst b_
   refine W_ret ?_
   refine ⟨_, ⟨_, _, rfl, rfl, ⟨_, _, rfl, rfl, rfl⟩⟩, ?_⟩
   exact ⟨Ad0_1, cd0_1, z0.F_.e0_, 0, _, _, rfl, hI, hcd0_1, hsd0_1, h⟩
  ·
   replace h := h.2.1 hi10_
   refine Ops_step (R_indexArrK Try.underlying51 sz29 rfl rfl hi10_ (by decide)) rfl rfl ?_
   refine Ops_step (R_loadB (v := .slice Ad0_2 z0.F_.e1_.length cd0_2) ag29 rfl htd0.blk rfl) rfl rfl ?_
   refine Ops_step (R_assign rfl) rfl rfl (Ops_step (R_assign rfl) rfl rfl ?_)
   refine Ops_nil ?_
   refine then_n (k9 _ _ ?_)
   clear k9 K9
   refine W_keepB [4, 5] fun B_ b_ => ?_
   simp only [e_, Nat.reduceAdd, Nat.reduceBEq] at b_
   subst b_
   refine W_ret ?_
   refine ⟨_, ⟨_, _, rfl, rfl, ⟨_, _, rfl, rfl, rfl⟩⟩, ?_⟩
   exact ⟨Ad0_2, cd0_2, z0.F_.e1_, 0, _, _, rfl, hI, hcd0_2, hsd0_2, h⟩
  ·
   replace h := h.2.2 hi10_
   refine Ops_step (R_indexArrK Try.underlying51 sz29 rfl rfl hi10_ (by decide)) rfl rfl ?_
   refine Ops_step (R_loadB (v := .slice Ad0_3 z0.F_.e2_.length cd0_3) ag29 rfl htd0.blk rfl) rfl rfl ?_
   refine Ops_step (R_assign rfl) rfl rfl (Ops_step (R_assign rfl) rfl rfl ?_)
   refine Ops_nil ?_
   refine then_n (k9 _ _ ?_)
   clear k9 K9
   refine W_keepB [4, 5] fun B_ b_ => ?_
   simp only [e_, Nat.reduceAdd, Nat.reduceBEq] at b_
   subst b_
   refine W_ret ?_
   refine ⟨_, ⟨_, _, rfl, rfl, ⟨_, _, rfl, rfl, rfl⟩⟩, ?_⟩
   exact ⟨Ad0_3, cd0_3, z0.F_.e2_, 0, _, _, rfl, hI, hcd0_3, hsd0_3, h⟩

theorem sealskinref02_number_ok {G : Gh} {w : World} (hS : St G w) (hg : GL G) {A0 : Option Addr} {c0 : Nat} {x0 : List UInt8} (hc0 : x0.length ≤ c0) (hs0 : Sl G A0 x0) {Q : Int → Int → Prop} (h : sealskinref02_number x0 Q) : Calls Try.prog 88 #[.slice A0 x0.length c0] w fun e w2 => ∃ (r0 : Int) (r1 : Int) (L H : Gh), e = .returned (.tuple #[vi r0, vi r1]) ∧ Inv [] G w L H w2 ∧ Q r0 r1 := by
 unfold sealskinref02_number at h
 have hI := Inv.start (M := []) hS
 refine calls_W 26 Try.func88 rfl Try.ntmps88 rfl [.tmp 2, .tmp 3] rfl ?_
 refine W_seq_k fun K1 k1 => ?_
 refine W_region [2, 3] rfl (Ops_step (R_assign rfl) rfl rfl (Ops_step (R_assign rfl) rfl rfl ?_))
 refine Ops_nil ?_
 refine then_n (k1 _ _ ?_)
 clear k1 K1
 refine W_seq_k fun K2 k2 => ?_
 refine W_seq_k fun K3 k3 => ?_
 refine W_region [6, 7, 8] rfl (Ops_step (R_move rfl) rfl rfl (Ops_step (R_len Try.underlying29 rfl rfl) rfl rfl (Ops_step (R_lss rfl rfl) rfl rfl ?_)))
 refine Ops_nil ?_
 refine then_n (k3 _ _ ?_)
 clear k3 K3
 refine W_if rfl (fun hc4_ => ?_) (fun hc4_ => ?_)
 ·
  replace h := h.1 hc4_
  refine W_seq_k fun K5 k5 => ?_
  refine W_region [2, 3] rfl (Ops_step (R_assign rfl) rfl rfl (Ops_step (R_assign rfl) rfl rfl ?_))
  refine Ops_nil ?_
  refine then_n (k5 _ _ ?_)
  clear k5 K5
  refine W_ret ?_
  refine then_ret ?_
  clear k2 K2
  refine ⟨_, ⟨_, _, rfl, rfl, ⟨_, _, rfl, rfl, rfl⟩⟩, ?_⟩
  exact ⟨0, 2, _, _, rfl, hI, h⟩
 ·
  replace h := h.2 hc4_
  refine W_skip ?_
  refine then_n (k2 _ _ ?_)
  clear k2 K2
  refine W_seq_k fun K6 k6 => ?_
  refine W_seq_k fun K7 k7 => ?_
  refine W_region [9, 10, 11, 12] rfl (Ops_step (R_move rfl) rfl rfl ?_)
  refine ex_ h fun x8_ hx8_ h => ?_
  have ha8_ := (hs0.atS hx8_).1
  have hg8_ := (hs0.atS hx8_).2
  refine Ops_step (R_indexSl Try.underlying29 sz5 rfl rfl hx8_.1 hx8_.lt ha8_) rfl rfl (Ops_step (R_load ag5 rfl (hI.st _ _ hg8_)) rfl rfl (Ops_step (R_gtr rfl rfl) rfl rfl ?_))
  refine Ops_nil ?_
  refine then_n (k7 _ _ ?_)
  clear k7 K7
  refine W_keepB [0, 12] fun B_ b_ => ?_
  simp only [e_, Nat.reduceAdd, Nat.reduceBEq] at b_
  subst b_
  refine W_if rfl (fun hc10_ => ?_) (fun hc10_ => ?_)
  ·
   replace h := h.1 hc10_
   refine W_seq_k fun K11 k11 => ?_
   refine W_region [2, 3] rfl (Ops_step (R_assign rfl) rfl rfl (Ops_step (R_assign rfl) rfl rfl ?_))
   refine Ops_nil ?_
   refine then_n (k11 _ _ ?_)
   clear k11 K11
   refine W_ret ?_
   refine then_ret ?_
   clear k6 K6
   refine ⟨_, ⟨_, _, rfl, rfl, ⟨_, _, rfl, rfl, rfl⟩⟩, ?_⟩
   exact ⟨0, 5, _, _, rfl, hI, h⟩
  ·
   replace h := h.2 hc10_
   refine W_skip ?_
   refine then_n (k6 _ _ ?_)
   clear k6 K6
   refine W_seq_k fun K12 k12 => ?_
   refine W_region [4] rfl (Ops_step (R_assign rfl) rfl rfl ?_)
   refine Ops_nil ?_
   refine then_n (k12 _ _ ?_)
   clear k12 K12
   refine ex_ h fun J13_ hr13_ h => ?_
   refine W_seq_join [] [4] (fun vals_ w2 => ∃ (x4_13 : Int) (L H : Gh), vals_ = [vi x4_13] ∧ J13_ x4_13 ∧ Inv [] G w L H w2 ∧ Le Gh.no L ∧ Le G H ∧ True) (fun B_ b_ => ?_) (fun B_ b_ => ?_)
   ·
    simp only [e_, Nat.reduceAdd, Nat.reduceBEq] at b_
    subst b_
    clear hr13_
    have hll13_ := Le.refl Gh.no
    have hhh13_ := Le.refl G
    refine W_seq_k fun K14 k14 => ?_
    refine W_region [13] rfl (Ops_step (R_move rfl) rfl rfl ?_)
    refine Ops_nil ?_
    refine then_n (k14 _ _ ?_)
    clear k14 K14
    refine W_block ?_
    refine Exists.elim h fun I15_ h => Exists.elim h fun n15_ h => ?_
    have h0_ := h.1
    have hs15_ := h.2
    clear h
    refine W_loopB [0] [4, 13] (fun m vals_ w2 => ∃ (x4_15 : Int) (x13_15 : Int) (L H : Gh), vals_ = [vi x4_15, vi x13_15] ∧ I15_ m x4_15 x13_15 ∧ Inv [] G w L H w2 ∧ Le Gh.no L ∧ Le G H ∧ True) n15_ _ rfl ⟨0, 0, _, _, rfl, h0_, hI, Le.refl _, Le.refl _, trivial⟩ fun B_ b_ => ?_
    clear h0_
    simp only [e_, Nat.reduceAdd, Nat.reduceBEq] at b_
    subst b_
    rintro m15_ _ w15_ ⟨x4_15, x13_15, L15_, H15_, rfl, hJ15_, hI15_, hll15_, hhh15_, -⟩
    replace hI := hI15_
    clear hI15_
    have h := hs15_ m15_ x4_15 x13_15 hJ15_
    clear hs15_ hJ15_
    replace hs0 := hs0.up hhh15_
    replace hll13_ := hll13_.trans hll15_
    replace hhh13_ := hhh13_.trans hhh15_
    refine W_seq_k fun K16 k16 => ?_
    refine W_region [14] rfl (Ops_step (R_lss rfl rfl) rfl rfl ?_)
    refine Ops_nil ?_
    refine then_n (k16 _ _ ?_)
    clear k16 K16
    refine W_seq_k fun K17 k17 => ?_
    refine W_if rfl (fun hc18_ => ?_) (fun hc18_ => ?_)
    ·
     replace h := h.1 hc18_
     refine W_skip ?_
     refine then_n (k17 _ _ ?_)
     clear k17 K17
     refine W_seq_k fun K19 k19 => ?_
     refine W_block ?_
     refine W_seq_k fun K20 k20 => ?_
     refine W_region [15, 5] rfl (Ops_step (R_move rfl) rfl rfl (Ops_step (R_assign rfl) rfl rfl ?_))
     refine Ops_nil ?_
     refine then_n (k20 _ _ ?_)
     clear k20 K20
     refine W_region [16, 17, 18, 19, 20, 21, 22, 23, 4] rfl (Ops_step (R_move rfl) rfl rfl ?_)
     have hk21_ := h.1
     replace h := h.2
     refine Ops_step (R_mul rfl rfl (wI hk21_.1 hk21_.2)) rfl rfl (Ops_step (R_move rfl) rfl rfl (Ops_step (R_move rfl) rfl rfl ?_))
     refine ex_ h fun x22_ hx22_ h => ?_
     have ha22_ := (hs0.atS hx22_).1
     have hg22_ := (hs0.atS hx22_).2
     refine Ops_step (R_indexSl Try.underlying29 sz5 rfl rfl hx22_.1 hx22_.lt ha22_) rfl rfl (Ops_step (R_load ag5 rfl (hI.st _ _ hg22_)) rfl rfl (Ops_step (R_conv Try.underlying5 Try.underlying3 rfl (c8_I _)) rfl rfl ?_))
     have hk23_ := h.1
     replace h := h.2
     refine Ops_step (R_add rfl rfl (wI hk23_.1 hk23_.2)) rfl rfl (Ops_step (R_assign rfl) rfl rfl ?_)
     refine Ops_nil ?_
     refine block_n ?_
     refine then_n (k19 _ _ ?_)
     clear k19 K19
     refine W_keepB [0, 4, 13] fun B_ b_ => ?_
     simp only [e_, Nat.reduceAdd, Nat.reduceBEq] at b_
     subst b_
     refine W_region [24, 13] rfl ?_
     have hk25_ := h.1
     replace h := h.2
     refine Ops_step (R_add rfl rfl (wI hk25_.1 hk25_.2)) rfl rfl (Ops_step (R_move rfl) rfl rfl ?_)
     refine Ops_nil ?_
     refine then_n ?_
     exact h.elim fun m_ h => ⟨m_, _, h.1, rfl, ⟨((256 * x4_15) + (x22_.toNat : Int)), (x13_15 + 1), _, _, rfl, h.2, hI, hll15_, hhh15_, trivial⟩, ⟨rfl, trivial⟩⟩
    ·
     replace h := h.2 hc18_
     refine W_exit ?_
     refine then_exit ?_
     clear k17 K17
     refine then_exit ?_
     refine block_exit ?_
     refine then_n ?_
     exact ⟨_, rfl, ⟨x4_15, _, _, rfl, h, hI, hll13_, hhh13_, trivial⟩, trivial⟩
   ·
    simp only [e_, Nat.reduceAdd, Nat.reduceBEq] at b_
    subst b_
    clear h
    rintro _ w13_ ⟨x4_13, L13_, H13_, rfl, hJ13_, hI13_, hll13_, hhh13_, -⟩
    replace hI := hI13_
    clear hI13_
    have h := hr13_ x4_13 hJ13_
    clear hr13_ hJ13_
    refine W_seq_k fun K26 k26 => ?_
    refine W_region [25, 2, 3] rfl (Ops_step (R_move rfl) rfl rfl (Ops_step (R_assign rfl) rfl rfl (Ops_step (R_assign rfl) rfl rfl ?_)))
    refine Ops_nil ?_
    refine then_n (k26 _ _ ?_)
    clear k26 K26
    refine W_ret ?_
    refine ⟨_, ⟨_, _, rfl, rfl, ⟨_, _, rfl, rfl, rfl⟩⟩, ?_⟩
    exact ⟨x4_13, 0, _, _, rfl, hI, h⟩

theorem sealskinref02_Reader_Bytes_ok {G : Gh} {w : World} (hS : St G w) (hg : GL G) {d0 : Nat} {z0 : sealskinref02_Reader} {Ad0_1 : Option Addr} {cd0_1 : Nat} (htd0 : Tok G w d0 113 ([.slice Ad0_1 z0.B_.length cd0_1, vi z0.At_, vi z0.E_])) (hcd0_1 : z0.B_.length ≤ cd0_1) (hsd0_1 : Sl G Ad0_1 z0.B_) {x1 : Int} {Q : (List UInt8) → sealskinref02_Reader → Prop} (h : sealskinref02_Reader_Bytes z0 x1 Q) : Calls Try.prog 75 #[.pointer (some ⟨d0, 0, none⟩), vi x1] w fun e w2 => ∃ (A0 : Option Addr) (c0 : Nat) (r0 : List UInt8) (y0 : sealskinref02_Reader) (Ay0_1 : Option Addr) (cy0_1 : Nat) (L H : Gh), e = .returned (.slice A0 r0.length c0) ∧ Inv [d0] G w L H w2 ∧ OwnS w.heap.size 5 L H w2 A0 c0 r0 ∧ Tok H w2 d0 113 ([.slice Ay0_1 y0.B_.length cy0_1, vi y0.At_, vi y0.E_]) ∧ y0.B_.length ≤ cy0_1 ∧ Sl H Ay0_1 y0.B_ ∧ Q r0 y0 := by
 unfold sealskinref02_Reader_Bytes at h
 have hI := Inv.start (M := [d0]) hS
 refine calls_W 83 Try.func75 rfl Try.ntmps75 rfl [.tmp 4] rfl ?_
 have hlt_d0 := htd0.blk.lt
 refine W_seq_k fun K1 k1 => ?_
 refine W_region [4] rfl (Ops_step (R_assign rfl) rfl rfl ?_)
 refine Ops_nil ?_
 refine then_n (k1 _ _ ?_)
 clear k1 K1
 refine W_seq_k fun K2 k2 => ?_
 refine W_seq_k fun K3 k3 => ?_
 refine W_region [8, 9, 10, 11, 12] rfl (Ops_step (R_move rfl) rfl rfl (Ops_step (R_nilCheck rfl) rfl rfl (Ops_step (R_fieldAddr fo113_2 rfl) rfl rfl ?_)))
 refine Ops_step (R_loadB (v := vi z0.E_) ag32 rfl htd0.blk rfl) rfl rfl ?_
 refine Ops_step (R_neq rfl rfl) rfl rfl ?_
 refine Ops_nil ?_
 refine then_n (k3 _ _ ?_)
 clear k3 K3
 refine W_if rfl (fun hc4_ => ?_) (fun hc4_ => ?_)
 ·
  replace h := h.1 hc4_
  refine W_seq_k fun K5 k5 => ?_
  refine W_region [4] rfl (Ops_step (R_assign rfl) rfl rfl ?_)
  refine Ops_nil ?_
  refine then_n (k5 _ _ ?_)
  clear k5 K5
  refine W_keepB [4] fun B_ b_ => ?_
  simp only [e_, Nat.reduceAdd, Nat.reduceBEq] at b_
  subst b_
  refine W_ret ?_
  refine then_ret ?_
  clear k2 K2
  refine ⟨_, ⟨_, _, rfl, rfl, rfl⟩, ?_⟩
  exact ⟨none, 0, [], z0, Ad0_1, cd0_1, _, _, rfl, hI, OwnS.nil, htd0, hcd0_1, hsd0_1, h⟩
 ·
  replace h := h.2 hc4_
  refine W_skip ?_
  refine then_n (k2 _ _ ?_)
  clear k2 K2
  refine W_keepB [0, 1] fun B_ b_ => ?_
  simp only [e_, Nat.reduceAdd, Nat.reduceBEq] at b_
  subst b_
  refine W_seq_k fun K8 k8 => ?_
  refine W_drawF [14, 15, 16, 17, 18, 19, 20, 21, 22, 23, 13, 24, 25, 5, 6] [(0, true), (1, true), (2, true), (3, true), (4, true), (5, true), (6, true), (7, true), (8, true), (9, false), (10, true), (11, true), (12, true), (13, true), (14, true)] TJtG.hm rfl (by kernel_rfl) fun ops9_ w9_ hops9_ hF9_ => ?_
  replace hI := hI.fr0 hF9_
  replace htd0 := htd0.fr0 hF9_
  clear hF9_
  refine HSp (R_move rfl) rfl rfl (HSp (R_nilCheck rfl) rfl rfl (HSp (R_fieldAddr fo113_0 rfl) rfl rfl ?_))
  refine HS_loadB (v := .slice Ad0_1 z0.B_.length cd0_1) ag29 rfl htd0.blk rfl rfl rfl ?_
  refine HSp (R_move rfl) rfl rfl (HSp (R_nilCheck rfl) rfl rfl (HSp (R_fieldAddr fo113_1 rfl) rfl rfl ?_))
  refine HS_loadB (v := vi z0.At_) ag3 rfl htd0.blk rfl rfl rfl ?_
  have hk11_ := h.1
  replace h := h.2
  have hk12_ := h.1
  replace h := h.2
  refine Exists.elim (cut_ex (n := 1) (l := z0.At_) (h := (z0.B_.length : Int)) hsd0_1 rfl (by decide) hcd0_1 hk11_ hk12_ (Int.le_refl _)) fun A10_ h10_ => Exists.elim h10_ fun c10_ h10_ => ?_
  have hr10_ := h10_.1
  have hc10_ := h10_.2.1
  have hs10_ := h10_.2.2
  clear h10_
  refine HSp (X_slice (xs := z0.B_) Try.underlying29 sz5 rfl hr10_ hcd0_1 rfl rfl hk11_ hk12_ (Int.le_refl _)) rfl rfl ?_
  clear hr10_
  refine HS_call [] _ rfl (by rw [hops9_]; kernel_rfl) (C_func bd88 rfl) rfl rfl ?_
  refine (sealskinref02_number_ok (x0 := (cut z0.B_ z0.At_ (z0.B_.length : Int))) hI.st (hg.up hI.le) hc10_ hs10_ h).mono ?_
  rintro _ w13_ ⟨r13_0, r13_1, L13_, H13_, rfl, hI13_, h⟩
  refine Exists.elim (hI.call hI13_ (by simp)) fun L130_ h13_ => ?_
  have hz13_ := hI.size
  replace hI := h13_.1
  have u13_ := h13_.2.1
  have hl13_ := h13_.2.2
  clear h13_
  replace hsd0_1 := hsd0_1.up u13_.hh
  replace htd0 := htd0.up u13_ (by simp)
  clear hI13_ u13_ hl13_
  refine ⟨_, rfl, trivial, ?_⟩
  refine HSp (R_move rfl) rfl rfl ?_
  refine HSp (R_extract (v := vi r13_0) rfl rfl) rfl rfl ?_
  refine HSp (R_extract (v := vi r13_1) rfl rfl) rfl rfl ?_
  refine HSp (R_assign rfl) rfl rfl (HSp (R_assign rfl) rfl rfl ?_)
  refine HS_nil ?_
  clear hops9_
  refine then_n (k8 _ _ ?_)
  clear k8 K8
  refine W_keepB [0, 1, 5, 6] fun B_ b_ => ?_
  simp only [e_, Nat.reduceAdd, Nat.reduceBEq] at b_
  subst b_
  refine ex_ h fun J15_ hr15_ h => ?_
  refine W_seq_join [0, 5] [6] (fun vals_ w2 => ∃ (x6_15 : Int) (L H : Gh), vals_ = [vi x6_15] ∧ J15_ x6_15 ∧ Inv [d0] G w L H w2 ∧ Le L130_ L ∧ Le H13_ H ∧ Tok H w2 d0 113 ([.slice Ad0_1 z0.B_.length cd0_1, vi z0.At_, vi z0.E_]) ∧ True) (fun B_ b_ => ?_) (fun B_ b_ => ?_)
  ·
   simp only [e_, Nat.reduceAdd, Nat.reduceBEq] at b_
   subst b_
   clear hr15_
   have hll15_ := Le.refl L130_
   have hhh15_ := Le.refl H13_
   refine ex_ h fun J16_ hr16_ h => ?_
   refine W_seq_join [0, 5, 6] [36] (fun vals_ w2 => ∃ (x36_16 : Bool) (L H : Gh), vals_ = [.bool x36_16] ∧ J16_ x36_16 ∧ Inv [d0] G w L H w2 ∧ Le L130_ L ∧ Le H13_ H ∧ Tok H w2 d0 113 ([.slice Ad0_1 z0.B_.length cd0_1, vi z0.At_, vi z0.E_]) ∧ True) (fun B_ b_ => ?_) (fun B_ b_ => ?_)
   ·
    simp only [e_, Nat.reduceAdd, Nat.reduceBEq] at b_
    subst b_
    clear hr16_
    have hll16_ := Le.refl L130_
    have hhh16_ := Le.refl H13_
    refine W_region [26, 27, 28, 29, 30, 31, 32, 33, 34, 35, 36] rfl (Ops_step (R_move rfl) rfl rfl (Ops_step (R_eql rfl rfl) rfl rfl (Ops_step (R_move rfl) rfl rfl ?_)))
    refine Ops_split 28 rfl (fun hg17_ => ?_) (fun hg17_ => ?_)
    ·
     replace h := h.1 hg17_
     refine Ops_step (R_move rfl) rfl rfl (Ops_step (R_gtr rfl rfl) rfl rfl (Ops_step (R_pick_true rfl rfl) rfl rfl (Ops_step (R_move rfl) rfl rfl ?_)))
     refine Ops_split 32 rfl (fun hg18_ => ?_) (fun hg18_ => ?_)
     ·
      replace h := h.1 hg18_
      refine Ops_step (R_move rfl) rfl rfl (Ops_step (R_move rfl) rfl rfl (Ops_step (R_gtr rfl rfl) rfl rfl (Ops_step (R_pick_true rfl rfl) rfl rfl ?_)))
      refine Ops_nil ?_
      refine then_n ?_
      exact ⟨_, rfl, ⟨(decide (r13_0 > x1)), _, _, rfl, h, hI, hll16_, hhh16_, htd0, trivial⟩, ⟨rfl, rfl, rfl, trivial⟩⟩
     ·
      replace h := h.2 hg18_
      refine Ops_pass rfl rfl (Ops_pass rfl rfl (Ops_pass rfl rfl (Ops_step (R_pick_false rfl rfl) rfl rfl ?_)))
      refine Ops_nil ?_
      refine then_n ?_
      exact ⟨_, rfl, ⟨false, _, _, rfl, h, hI, hll16_, hhh16_, htd0, trivial⟩, ⟨rfl, rfl, rfl, trivial⟩⟩
    ·
     replace h := h.2 hg17_
     refine Ops_pass rfl rfl (Ops_pass rfl rfl (Ops_step (R_pick_false rfl rfl) rfl rfl (Ops_step (R_move rfl) rfl rfl (Ops_pass rfl rfl ?_))))
     refine Ops_pass rfl rfl (Ops_pass rfl rfl (Ops_step (R_pick_false rfl rfl) rfl rfl ?_))
     refine Ops_nil ?_
     refine then_n ?_
     exact ⟨_, rfl, ⟨false, _, _, rfl, h, hI, hll16_, hhh16_, htd0, trivial⟩, ⟨rfl, rfl, rfl, trivial⟩⟩
   ·
    simp only [e_, Nat.reduceAdd, Nat.reduceBEq] at b_
    subst b_
    clear h
    clear htd0
    rintro _ w16_ ⟨x36_16, L16_, H16_, rfl, hJ16_, hI16_, hll16_, hhh16_, htd0, -⟩
    replace hI := hI16_
    clear hI16_
    have h := hr16_ x36_16 hJ16_
    clear hr16_ hJ16_
    replace hsd0_1 := hsd0_1.up hhh16_
    replace hll15_ := hll15_.trans hll16_
    replace hhh15_ := hhh15_.trans hhh16_
    refine W_cond rfl (fun hc19_ => ?_) (fun hc19_ => ?_)
    ·
     replace h := h.1 hc19_
     refine W_region [6] rfl (Ops_step (R_assign rfl) rfl rfl ?_)
     refine Ops_nil ?_
     refine then_n ?_
     exact ⟨_, rfl, ⟨4, _, _, rfl, h, hI, hll15_, hhh15_, htd0, trivial⟩, ⟨rfl, rfl, trivial⟩⟩
    ·
     replace h := h.2 hc19_
     refine W_skip ?_
     refine then_n ?_
     exact ⟨_, rfl, ⟨r13_1, _, _, rfl, h, hI, hll15_, hhh15_, htd0, trivial⟩, ⟨rfl, rfl, trivial⟩⟩
  ·
   simp only [e_, Nat.reduceAdd, Nat.reduceBEq] at b_
   subst b_
   clear h
   clear htd0
   rintro _ w15_ ⟨x6_15, L15_, H15_, rfl, hJ15_, hI15_, hll15_, hhh15_, htd0, -⟩
   replace hI := hI15_
   clear hI15_
   have h := hr15_ x6_15 hJ15_
   clear hr15_ hJ15_
   replace hsd0_1 := hsd0_1.up hhh15_
   refine ex_ h fun J20_ hr20_ h => ?_
   refine W_seq_join [0, 5] [6] (fun vals_ w2 => ∃ (x6_20 : Int) (L H : Gh), vals_ = [vi x6_20] ∧ J20_ x6_20 ∧ Inv [d0] G w L H w2 ∧ Le L15_ L ∧ Le H15_ H ∧ Tok H w2 d0 113 ([.slice Ad0_1 z0.B_.length cd0_1, vi z0.At_, vi z0.E_]) ∧ True) (fun B_ b_ => ?_) (fun B_ b_ => ?_)
   ·
    simp only [e_, Nat.reduceAdd, Nat.reduceBEq] at b_
    subst b_
    clear hr20_
    have hll20_ := Le.refl L15_
    have hhh20_ := Le.refl H15_
    refine ex_ h fun J21_ hr21_ h => ?_
    refine W_seq_join [0, 5, 6] [53] (fun vals_ w2 => ∃ (x53_21 : Bool) (L H : Gh), vals_ = [.bool x53_21] ∧ J21_ x53_21 ∧ Inv [d0] G w L H w2 ∧ Le L15_ L ∧ Le H15_ H ∧ Tok H w2 d0 113 ([.slice Ad0_1 z0.B_.length cd0_1, vi z0.At_, vi z0.E_]) ∧ True) (fun B_ b_ => ?_) (fun B_ b_ => ?_)
    ·
     simp only [e_, Nat.reduceAdd, Nat.reduceBEq] at b_
     subst b_
     clear hr21_
     have hll21_ := Le.refl L15_
     have hhh21_ := Le.refl H15_
     refine W_drawF [37, 38, 39, 40, 41, 42, 43, 44, 45, 46, 47, 48, 49, 50, 51, 52, 53] [(0, true), (1, true), (2, true), (3, true), (4, true), (5, true), (6, true), (7, true), (8, true), (9, true), (10, true), (11, true), (12, true), (13, true), (14, true), (15, true), (16, true)] TJtG.hm rfl (by kernel_rfl) fun ops22_ w22_ hops22_ hF22_ => ?_
     replace hI := hI.fr0 hF22_
     replace htd0 := htd0.fr0 hF22_
     clear hF22_
     refine HSp (R_move rfl) rfl rfl (HSp (R_eql rfl rfl) rfl rfl (HSp (R_move rfl) rfl rfl ?_))
     refine HS_split 39 rfl (fun hg23_ => ?_) (fun hg23_ => ?_)
     ·
      replace h := h.1 hg23_
      refine HSp (R_move rfl) rfl rfl (HSp (R_move rfl) rfl rfl (HSp (R_nilCheck rfl) rfl rfl (HSp (R_fieldAddr fo113_0 rfl) rfl rfl ?_)))
      refine HS_loadB (v := .slice Ad0_1 z0.B_.length cd0_1) ag29 rfl htd0.blk rfl rfl rfl ?_
      refine HSp (R_len Try.underlying29 rfl rfl) rfl rfl (HSp (R_move rfl) rfl rfl (HSp (R_nilCheck rfl) rfl rfl (HSp (R_fieldAddr fo113_1 rfl) rfl rfl ?_)))
      refine HS_loadB (v := vi z0.At_) ag3 rfl htd0.blk rfl rfl rfl ?_
      have hk24_ := h.1
      replace h := h.2
      refine HSp (R_sub rfl rfl (wI hk24_.1 hk24_.2)) rfl rfl ?_
      have hk25_ := h.1
      replace h := h.2
      refine HSp (R_sub rfl rfl (wI hk25_.1 hk25_.2)) rfl rfl (HSp (R_gtr rfl rfl) rfl rfl (HSp (R_pick_true rfl rfl) rfl rfl ?_))
      refine HS_nil ?_
      clear hops22_
      refine then_n ?_
      exact ⟨_, rfl, ⟨(decide (r13_0 > (((z0.B_.length : Int) - z0.At_) - 8))), _, _, rfl, h, hI, hll21_, hhh21_, htd0, trivial⟩, ⟨rfl, rfl, rfl, trivial⟩⟩
     ·
      replace h := h.2 hg23_
      refine HS_pass rfl rfl ?_
      refine HS_pass rfl rfl ?_
      refine HS_pass rfl rfl ?_
      refine HS_pass rfl rfl ?_
      refine HS_pass rfl rfl ?_
      refine HS_pass rfl rfl ?_
      refine HS_pass rfl rfl ?_
      refine HS_pass rfl rfl ?_
      refine HS_pass rfl rfl ?_
      refine HS_pass rfl rfl ?_
      refine HS_pass rfl rfl ?_
      refine HS_pass rfl rfl ?_
      refine HS_pass rfl rfl ?_
      refine HSp (R_pick_false rfl rfl) rfl rfl ?_
      refine HS_nil ?_
      clear hops22_
      refine then_n ?_
      exact ⟨_, rfl, ⟨false, _, _, rfl, h, hI, hll21_, hhh21_, htd0, trivial⟩, ⟨rfl, rfl, rfl, trivial⟩⟩
    ·
     simp only [e_, Nat.reduceAdd, Nat.reduceBEq] at b_
     subst b_
     clear h
     clear htd0
     rintro _ w21_ ⟨x53_21, L21_, H21_, rfl, hJ21_, hI21_, hll21_, hhh21_, htd0, -⟩
     replace hI := hI21_
     clear hI21_
     have h := hr21_ x53_21 hJ21_
     clear hr21_ hJ21_
     replace hsd0_1 := hsd0_1.up hhh21_
     replace hll20_ := hll20_.trans hll21_
     replace hhh20_ := hhh20_.trans hhh21_
     refine W_cond rfl (fun hc26_ => ?_) (fun hc26_ => ?_)
     ·
      replace h := h.1 hc26_
      refine W_region [6] rfl (Ops_step (R_assign rfl) rfl rfl ?_)
      refine Ops_nil ?_
      refine then_n ?_
      exact ⟨_, rfl, ⟨2, _, _, rfl, h, hI, hll20_, hhh20_, htd0, trivial⟩, ⟨rfl, rfl, trivial⟩⟩
     ·
      replace h := h.2 hc26_
      refine W_skip ?_
      refine then_n ?_
      exact ⟨_, rfl, ⟨x6_15, _, _, rfl, h, hI, hll20_, hhh20_, htd0, trivial⟩, ⟨rfl, rfl, trivial⟩⟩
   ·
    simp only [e_, Nat.reduceAdd, Nat.reduceBEq] at b_
    subst b_
    clear h
    clear htd0
    rintro _ w20_ ⟨x6_20, L20_, H20_, rfl, hJ20_, hI20_, hll20_, hhh20_, htd0, -⟩
    replace hI := hI20_
    clear hI20_
    have h := hr20_ x6_20 hJ20_
    clear hr20_ hJ20_
    replace hsd0_1 := hsd0_1.up hhh20_
    refine W_seq_k fun K27 k27 => ?_
    refine W_seq_k fun K28 k28 => ?_
    refine W_region [54, 55] rfl (Ops_step (R_move rfl) rfl rfl (Ops_step (R_neq rfl rfl) rfl rfl ?_))
    refine Ops_nil ?_
    refine then_n (k28 _ _ ?_)
    clear k28 K28
    refine W_if rfl (fun hc29_ => ?_) (fun hc29_ => ?_)
    ·
     replace h := h.1 hc29_
     refine W_seq_k fun K30 k30 => ?_
     refine W_region [56, 57, 58, 59, none] rfl (Ops_step (R_move rfl) rfl rfl (Ops_step (R_move rfl) rfl rfl (Ops_step (R_nilCheck rfl) rfl rfl (Ops_step (R_fieldAddr fo113_2 rfl) rfl rfl ?_))))
     refine Ops_to0 (R_store sz32 rfl rfl htd0.blk (by show 2 < 3; decide) rfl) rfl ?_
     rintro _ w31_ ⟨hB31_, hF31_⟩
     replace hI := hI.tok hF31_ (out1 htd0.out) (mem1 (by simp))
     replace htd0 : Tok H20_ _ d0 113 ([.slice Ad0_1 z0.B_.length cd0_1, vi z0.At_, vi x6_20]) := ⟨hB31_, htd0.out⟩
     clear hF31_ hB31_
     refine Ops_nil ?_
     refine then_n (k30 _ _ ?_)
     clear k30 K30
     refine W_keepB [] fun B_ b_ => ?_
     simp only [e_, Nat.reduceAdd, Nat.reduceBEq] at b_
     subst b_
     refine W_seq_k fun K33 k33 => ?_
     refine W_region [4] rfl (Ops_step (R_assign rfl) rfl rfl ?_)
     refine Ops_nil ?_
     refine then_n (k33 _ _ ?_)
     clear k33 K33
     refine W_ret ?_
     refine then_ret ?_
     clear k27 K27
     refine ⟨_, ⟨_, _, rfl, rfl, rfl⟩, ?_⟩
     exact ⟨none, 0, [], (sealskinref02_Reader.mk z0.B_ z0.At_ x6_20), Ad0_1, cd0_1, _, _, rfl, hI, OwnS.nil, htd0, hcd0_1, hsd0_1, h⟩
    ·
     replace h := h.2 hc29_
     refine W_skip ?_
     refine then_n (k27 _ _ ?_)
     clear k27 K27
     refine W_seq_k fun K34 k34 => ?_
     refine W_region [60, 61, 62, 63, 64, 7] rfl (Ops_step (R_move rfl) rfl rfl (Ops_step (R_nilCheck rfl) rfl rfl (Ops_step (R_fieldAddr fo113_1 rfl) rfl rfl ?_)))
     refine Ops_step (R_loadB (v := vi z0.At_) ag3 rfl htd0.blk rfl) rfl rfl ?_
     have hk35_ := h.1
     replace h := h.2
     refine Ops_step (R_add rfl rfl (wI hk35_.1 hk35_.2)) rfl rfl (Ops_step (R_assign rfl) rfl rfl ?_)
     refine Ops_nil ?_
     refine then_n (k34 _ _ ?_)
     clear k34 K34
     refine W_keepB [0, 5, 7] fun B_ b_ => ?_
     simp only [e_, Nat.reduceAdd, Nat.reduceBEq] at b_
     subst b_
     refine W_seq_k fun K37 k37 => ?_
     refine W_region [65, 66, 67, 68, 69, 70, none] rfl (Ops_step (R_move rfl) rfl rfl (Ops_step (R_move rfl) rfl rfl (Ops_step (R_move rfl) rfl rfl ?_)))
     have hk38_ := h.1
     replace h := h.2
     refine Ops_step (R_add rfl rfl (wI hk38_.1 hk38_.2)) rfl rfl (Ops_step (R_nilCheck rfl) rfl rfl (Ops_step (R_fieldAddr fo113_1 rfl) rfl rfl ?_))
     refine Ops_to0 (R_store sz3 rfl rfl htd0.blk (by show 1 < 3; decide) rfl) rfl ?_
     rintro _ w39_ ⟨hB39_, hF39_⟩
     replace hI := hI.tok hF39_ (out1 htd0.out) (mem1 (by simp))
     replace htd0 : Tok H20_ _ d0 113 ([.slice Ad0_1 z0.B_.length cd0_1, vi ((z0.At_ + 8) + r13_0), vi z0.E_]) := ⟨hB39_, htd0.out⟩
     clear hF39_ hB39_
     refine Ops_nil ?_
     refine then_n (k37 _ _ ?_)
     clear k37 K37
     refine W_keepB [0, 7] fun B_ b_ => ?_
     simp only [e_, Nat.reduceAdd, Nat.reduceBEq] at b_
     subst b_
     refine W_seq_k fun K41 k41 => ?_
     refine W_drawF [71, 72, 73, 74, 75, 76, 77, 78, 79, 80, 81, 82, 4] [(1, true), (2, true), (3, true), (4, true), (5, true), (6, true), (7, true), (8, true), (9, true), (10, true), (0, false), (11, false), (12, true)] TJtG.hm rfl (by kernel_rfl) fun ops42_ w42_ hops42_ hF42_ => ?_
     replace hI := hI.fr0 hF42_
     replace htd0 := htd0.fr0 hF42_
     clear hF42_
     refine HSp (R_move rfl) rfl rfl (HSp (R_nilCheck rfl) rfl rfl (HSp (R_fieldAddr fo113_0 rfl) rfl rfl ?_))
     refine HS_loadB (v := .slice Ad0_1 z0.B_.length cd0_1) ag29 rfl htd0.blk rfl rfl rfl ?_
     refine HSp (R_move rfl) rfl rfl (HSp (R_move rfl) rfl rfl (HSp (R_nilCheck rfl) rfl rfl (HSp (R_fieldAddr fo113_1 rfl) rfl rfl ?_)))
     refine HS_loadB (v := vi ((z0.At_ + 8) + r13_0)) ag3 rfl htd0.blk rfl rfl rfl ?_
     have hk44_ := h.1
     replace h := h.2
     have hk45_ := h.1
     replace h := h.2
     have hk46_ := h.1
     replace h := h.2
     refine Exists.elim (cut_ex (n := 1) (l := (z0.At_ + 8)) (h := ((z0.At_ + 8) + r13_0)) hsd0_1 rfl (by decide) hcd0_1 hk44_ hk45_ hk46_) fun A43_ h43_ => Exists.elim h43_ fun c43_ h43_ => ?_
     have hr43_ := h43_.1
     have hc43_ := h43_.2.1
     have hs43_ := h43_.2.2
     clear h43_
     refine HSp (X_slice (xs := z0.B_) Try.underlying29 sz5 rfl hr43_ hcd0_1 rfl rfl hk44_ hk45_ hk46_) rfl rfl ?_
     clear hr43_
     refine HS_to [9, 4] _ rfl (by rw [hops42_]; kernel_rfl) (R_buildSlice0 el29) rfl rfl ?_
     rintro _ w47_ ⟨b47_, rfl, hb47_, hB47_, hF47_⟩
     have ho47_ : OwnS w.heap.size 5 Gh.no H20_ _ (some ⟨b47_, 0, none⟩) 0 ([] : List UInt8) := OwnS.ofBlk hI.st hb47_ hB47_ (all2_sc' _) rfl (by have := hI.size; omega) (by show 0 ≤ maxLen; decide)
     replace hI := hI.fr0 hF47_
     replace htd0 := htd0.fr0 hF47_
     clear hF47_ hB47_
     refine ⟨⟨(htd0.blk.at_ rfl), (htd0.blk.at_ rfl), trivial⟩, ?_⟩
     have hk49_ := h.1
     replace h := h.2
     refine HS_to [] _ rfl (by rw [hops42_]; kernel_rfl) (X_append (α := UInt8) (xs := ([] : List UInt8)) (ys := (cut z0.B_ (z0.At_ + 8) ((z0.At_ + 8) + r13_0))) el29 rfl rfl ho47_ (Srcs.sc (Srcs.ofSl Try.underlying29 hs43_ hI.st (by decide))) hI.st hk49_ (by decide) hI.size) rfl rfl ?_
     rintro _ w48_ ⟨A48_, c48_, rfl, ho48_, hF48_, hbk48_⟩
     clear hbk48_
     replace hI := hI.tok hF48_ ho47_.out (ho47_.new (Nat.le_refl _))
     replace htd0 := htd0.fr hF48_ (ho47_.old hlt_d0)
     clear hF48_ ho47_
     refine ⟨trivial, ?_⟩
     refine HSp (R_assign rfl) rfl rfl ?_
     refine HS_nil ?_
     clear hops42_
     refine then_n (k41 _ _ ?_)
     clear k41 K41
     refine W_keepB [4] fun B_ b_ => ?_
     simp only [e_, Nat.reduceAdd, Nat.reduceBEq] at b_
     subst b_
     refine W_ret ?_
     refine ⟨_, ⟨_, _, rfl, rfl, rfl⟩, ?_⟩
     exact ⟨A48_, c48_, (([] : List UInt8) ++ (cut z0.B_ (z0.At_ + 8) ((z0.At_ + 8) + r13_0))), (sealskinref02_Reader.mk z0.B_ ((z0.At_ + 8) + r13_0) z0.E_), Ad0_1, cd0_1, _, _, rfl, hI, (ho48_.hl (Le.no _)), htd0, hcd0_1, hsd0_1, h⟩

theorem sealskinref02_Reader_Left_ok {G : Gh} {w : World} (hS : St G w) (hg : GL G) {d0 : Nat} {z0 : sealskinref02_Reader} {Ad0_1 : Option Addr} {cd0_1 : Nat} (htd0 : Tok G w d0 113 ([.slice Ad0_1 z0.B_.length cd0_1, vi z0.At_, vi z0.E_])) (hcd0_1 : z0.B_.length ≤ cd0_1) (hsd0_1 : Sl G Ad0_1 z0.B_) {Q : Int → Prop} (h : sealskinref02_Reader_Left z0 Q) : Calls Try.prog 86 #[.pointer (some ⟨d0, 0, none⟩)] w fun e w2 => ∃ (r0 : Int) (L H : Gh), e = .returned (vi r0) ∧ Inv [] G w L H w2 ∧ Q r0 := by
 unfold sealskinref02_Reader_Left at h
 have hI := Inv.start (M := []) hS
 refine calls_W 13 Try.func86 rfl Try.ntmps86 rfl [.tmp 2] rfl ?_
 have hlt_d0 := htd0.blk.lt
 refine W_seq_k fun K1 k1 => ?_
 refine W_region [2] rfl (Ops_step (R_assign rfl) rfl rfl ?_)
 refine Ops_nil ?_
 refine then_n (k1 _ _ ?_)
 clear k1 K1
 refine W_seq_k fun K2 k2 => ?_
 refine W_drawF [3, 4, 5, 6, 7, 8, 9, 10, 11, 12, 2] [(0, true), (1, true), (2, true), (3, true), (4, true), (5, true), (6, true), (7, true), (8, true), (9, true), (10, true)] TJtG.hm rfl (by kernel_rfl) fun ops3_ w3_ hops3_ hF3_ => ?_
 replace hI := hI.fr0 hF3_
 replace htd0 := htd0.fr0 hF3_
 clear hF3_
 refine HSp (R_move rfl) rfl rfl (HSp (R_nilCheck rfl) rfl rfl (HSp (R_fieldAddr fo113_0 rfl) rfl rfl ?_))
 refine HS_loadB (v := .slice Ad0_1 z0.B_.length cd0_1) ag29 rfl htd0.blk rfl rfl rfl ?_
 refine HSp (R_len Try.underlying29 rfl rfl) rfl rfl (HSp (R_move rfl) rfl rfl (HSp (R_nilCheck rfl) rfl rfl (HSp (R_fieldAddr fo113_1 rfl) rfl rfl ?_)))
 refine HS_loadB (v := vi z0.At_) ag3 rfl htd0.blk rfl rfl rfl ?_
 have hk4_ := h.1
 replace h := h.2
 refine HSp (R_sub rfl rfl (wI hk4_.1 hk4_.2)) rfl rfl (HSp (R_assign rfl) rfl rfl ?_)
 refine HS_nil ?_
 clear hops3_
 refine then_n (k2 _ _ ?_)
 clear k2 K2
 refine W_keepB [2] fun B_ b_ => ?_
 simp only [e_, Nat.reduceAdd, Nat.reduceBEq] at b_
 subst b_
 refine W_ret ?_
 refine ⟨_, ⟨_, _, rfl, rfl, rfl⟩, ?_⟩
 exact ⟨((z0.B_.length : Int) - z0.At_), _, _, rfl, hI, h⟩

end Go.Proofs.Ytkmljjhjojolcaa

