/- What is shown of the program on the way to the law. -/
import Derived.Test.YtkmljjhjojolcaaZp3
import Derived.Test.YtkmljjhjojolcaaZp4
import Derived.Test.YtkmljjhjojolcaaZp5
import Derived.Test.YtkmljjhjojolcaaZp7
import Derived.Test.YtkmljjhjojolcaaZp8
import Derived.Test.YtkmljjhjojolcaaProg
set_option linter.unusedVariables false
set_option linter.unusedSimpArgs false
set_option maxHeartbeats 4000000
namespace Go.Proofs.Ytkmljjhjojolcaa
open Go Go.Sx Go.Lx
namespace TJtD
theorem hm : Try.prog.follows .mixedOrders = true := by kernel_rfl
theorem ag25 : aggB Try.prog 25 = some false := by kernel_rfl
theorem ag26 : aggB Try.prog 26 = some false := by kernel_rfl
theorem ag3 : aggB Try.prog 3 = some false := by kernel_rfl
theorem ag41 : aggB Try.prog 41 = some false := by kernel_rfl
theorem ag85 : aggB Try.prog 85 = some true := by kernel_rfl
theorem bd14 : bodied Try.prog 14 = true := by kernel_rfl
theorem bd26 : bodied Try.prog 26 = true := by kernel_rfl
theorem bd39 : bodied Try.prog 39 = true := by kernel_rfl
theorem bd40 : bodied Try.prog 40 = true := by kernel_rfl
theorem bd41 : bodied Try.prog 41 = true := by kernel_rfl
theorem bd42 : bodied Try.prog 42 = true := by kernel_rfl
theorem bd43 : bodied Try.prog 43 = true := by kernel_rfl
theorem bd44 : bodied Try.prog 44 = true := by kernel_rfl
theorem bd45 : bodied Try.prog 45 = true := by kernel_rfl
theorem el29 : Elem Try.prog 29 5 1 1 := Elem.of (by kernel_rfl)
theorem fo44_0 : offB Try.prog 44 0 = some 0 := by kernel_rfl
theorem fo46_0 : offB Try.prog 46 0 = some 0 := by kernel_rfl
theorem fo46_1 : offB Try.prog 46 1 = some 2 := by kernel_rfl
theorem fo46_2 : offB Try.prog 46 2 = some 3 := by kernel_rfl
theorem fo46_3 : offB Try.prog 46 3 = some 4 := by kernel_rfl
theorem pl44 : partPl Try.prog 44 = some [(0, 1), (1, 1)] := by kernel_rfl
theorem pl46 : partPl Try.prog 46 = some [(0, 2), (2, 1), (3, 1), (4, 1)] := by kernel_rfl
theorem sz26 : sz Try.prog 26 = some 1 := by kernel_rfl
theorem sz3 : sz Try.prog 3 = some 1 := by kernel_rfl
theorem sz41 : sz Try.prog 41 = some 1 := by kernel_rfl
theorem sz85 : sz Try.prog 85 = some 2 := by kernel_rfl
theorem zr26 : zr Try.prog 26 = some ([.pointer none]) := by kernel_rfl
theorem zr41 : zr Try.prog 41 = some ([.slice none 0 0]) := by kernel_rfl
theorem zr44 : zr Try.prog 44 = some ([.slice none 0 0] ++ [.map none]) := by kernel_rfl
theorem zr46 : zr Try.prog 46 = some ([.slice none 0 0] ++ [.map none] ++ [.pointer none] ++ [.int .i64 0] ++ [.int .i64 0]) := by kernel_rfl
theorem zr85 : zr Try.prog 85 = some ([.int .i64 0] ++ [.slice none 0 0]) := by kernel_rfl
end TJtD
open TJtD
theorem journal_Journal_Check_ok {G : Gh} {w : World} (hS : St G w) (hg : GL G) {d0 : Nat} {z0 : journal_Journal} {ao : Option Addr} {ap : Nat} {d1 : Nat} {z1 : List (Int × Int)} (ac : MTok G G w d1 z1) {d2 : Nat} {z2 : disk_Disk} {bi : Option Addr} {bj : Nat} {bl : Option Addr} {bm : Nat} {bn : Option Addr} {bo : Nat} (ah : Tok G w d2 53 ([.slice bi z2.files_.e0_.length bj, .slice bl z2.files_.e1_.length bm, .slice bn z2.files_.e2_.length bo, vi z2.room_, .bool z2.off_, .bool z2.armed_, vi z2.left_])) (ca : z2.files_.e0_.length ≤ bj) (ad : Sl G bi z2.files_.e0_) (cb : z2.files_.e1_.length ≤ bm) (ae : Sl G bl z2.files_.e1_) (cc : z2.files_.e2_.length ≤ bo) (af : Sl G bn z2.files_.e2_) (aa : Tok G w d0 46 ([.slice ao z0.book_.l_.length ap, .map (some d1), .pointer (some ⟨d2, 0, none⟩), vi z0.gen_, vi z0.place_])) (a8 : z0.book_.l_.length ≤ ap) (ab : Sl G ao z0.book_.l_) {Q : Int → journal_Journal → disk_Disk → Prop} (h : journal_Journal_Check z0 z1 z2 Q) : Calls Try.prog 14 #[.pointer (some ⟨d0, 0, none⟩)] w fun e w2 => ∃ (r0 : Int) (y0 : journal_Journal) (ff : Option Addr) (fg : Nat) (y2 : disk_Disk) (fh : Option Addr) (fi : Nat) (fj : Option Addr) (fk : Nat) (fm : Option Addr) (fo : Nat) (L H : Gh), e = .returned (vi r0) ∧ Inv [d0, d2] G w L H w2 ∧ Tok H w2 d0 46 ([.slice ff y0.book_.l_.length fg, .map (some d1), .pointer (some ⟨d2, 0, none⟩), vi y0.gen_, vi y0.place_]) ∧ y0.book_.l_.length ≤ fg ∧ Sl H ff y0.book_.l_ ∧ Tok H w2 d2 53 ([.slice fh y2.files_.e0_.length fi, .slice fj y2.files_.e1_.length fk, .slice fm y2.files_.e2_.length fo, vi y2.room_, .bool y2.off_, .bool y2.armed_, vi y2.left_]) ∧ y2.files_.e0_.length ≤ fi ∧ Sl H fh y2.files_.e0_ ∧ y2.files_.e1_.length ≤ fk ∧ Sl H fj y2.files_.e1_ ∧ y2.files_.e2_.length ≤ fo ∧ Sl H fm y2.files_.e2_ ∧ Q r0 y0 y2 := by
 unfold journal_Journal_Check at h
 have hI := Inv.start (M := [d0, d2]) hS
 refine calls_W 103 Try.func14 rfl Try.ntmps14 rfl [.tmp 2] rfl ?_
 have cd := aa.blk.lt
 have ce := ac.lt
 have bp := ah.blk.lt
 refine W_seq_k fun K1 k1 => ?_
 refine W_region [2] rfl (Ops_step (R_assign rfl) rfl rfl ?_)
 refine Ops_nil ?_
 refine then_n (k1 _ _ ?_)
 clear k1 K1
 refine W_seq_k fun K2 k2 => ?_
 refine W_block ?_
 refine W_seq_k fun K3 k3 => ?_
 refine W_region [12, 13, 11] rfl (Ops_step (R_move rfl) rfl rfl ?_)
 refine Ops_call (C_func bd39 rfl) rfl rfl ?_
 refine (journal_Journal_dead_ok (z0 := z0) (z1 := z1) (z2 := z2) hI.st (hg.up hI.le) ac ah ca ad cb ae cc af aa a8 ab h).mono ?_
 rintro _ ld ⟨ju, lf, jf, rfl, gw, h⟩
 refine Exists.elim (hI.call gw (by simp)) fun gx i5 => ?_
 have jv := hI.size
 replace hI := i5.1
 have ez := i5.2.1
 have i6 := i5.2.2
 clear i5
 replace ab := ab.up ez.hh
 replace ac := ac.up ez.hh ez (by simp)
 replace ad := ad.up ez.hh
 replace ae := ae.up ez.hh
 replace af := af.up ez.hh
 replace ah := ah.up ez (by simp)
 replace aa := aa.up ez (by simp)
 clear gw ez i6
 refine ⟨_, rfl, ?_⟩
 refine Ops_step (R_assign rfl) rfl rfl ?_
 refine Ops_nil ?_
 refine then_n (k3 _ _ ?_)
 clear k3 K3
 refine W_cond rfl (fun gm => ?_) (fun gm => ?_)
 ·
  replace h := h.1 gm
  refine W_seq_k fun K6 k6 => ?_
  refine W_region [2] rfl (Ops_step (R_assign rfl) rfl rfl ?_)
  refine Ops_nil ?_
  refine then_n (k6 _ _ ?_)
  clear k6 K6
  refine W_ret ?_
  refine block_ret ?_
  refine then_ret ?_
  clear k2 K2
  refine ⟨_, ⟨_, _, rfl, rfl, rfl⟩, ?_⟩
  exact ⟨6, z0, ao, ap, z2, bi, bj, bl, bm, bn, bo, _, _, rfl, hI, aa, a8, ab, ah, ca, ad, cb, ae, cc, af, h⟩
 ·
  replace h := h.2 gm
  refine W_seq_k fun K7 k7 => ?_
  refine W_region [15, 16, 17, 18, 19, 14] rfl (Ops_step (R_move rfl) rfl rfl (Ops_step (R_nilCheck rfl) rfl rfl (Ops_step (R_fieldAddr fo46_2 rfl) rfl rfl ?_)))
  refine Ops_step (R_loadB (v := vi z0.gen_) ag3 rfl aa.blk rfl) rfl rfl ?_
  refine Ops_step (R_geq rfl rfl) rfl rfl (Ops_step (R_assign rfl) rfl rfl ?_)
  refine Ops_nil ?_
  refine then_n (k7 _ _ ?_)
  clear k7 K7
  refine W_keepB [0, 14] fun B_ b_ => ?_
  simp only [e_, Nat.reduceAdd, Nat.reduceBEq] at b_
  subst b_
  refine W_if rfl (fun gn => ?_) (fun gn => ?_)
  ·
   replace h := h.1 gn
   refine W_seq_k fun K10 k10 => ?_
   refine W_region [2] rfl (Ops_step (R_assign rfl) rfl rfl ?_)
   refine Ops_nil ?_
   refine then_n (k10 _ _ ?_)
   clear k10 K10
   refine W_ret ?_
   refine block_ret ?_
   refine then_ret ?_
   clear k2 K2
   refine ⟨_, ⟨_, _, rfl, rfl, rfl⟩, ?_⟩
   exact ⟨5, z0, ao, ap, z2, bi, bj, bl, bm, bn, bo, _, _, rfl, hI, aa, a8, ab, ah, ca, ad, cb, ae, cc, af, h⟩
  ·
   replace h := h.2 gn
   refine W_skip ?_
   refine block_n ?_
   refine then_n (k2 _ _ ?_)
   clear k2 K2
   refine W_seq_k fun K11 k11 => ?_
   refine W_region [20, 21, 22, 23, 24, 3, 4] rfl (Ops_step (R_move rfl) rfl rfl (Ops_step (R_nilCheck rfl) rfl rfl (Ops_step (R_fieldAddr fo46_2 rfl) rfl rfl ?_)))
   refine Ops_step (R_loadB (v := vi z0.gen_) ag3 rfl aa.blk rfl) rfl rfl ?_
   have fp := h.1
   replace h := h.2
   refine Ops_step (R_add rfl rfl (wI fp.1 fp.2)) rfl rfl (Ops_step (R_assign rfl) rfl rfl (Ops_step (R_assign rfl) rfl rfl ?_))
   refine Ops_nil ?_
   refine then_n (k11 _ _ ?_)
   clear k11 K11
   refine W_keepB [0, 3, 4] fun B_ b_ => ?_
   simp only [e_, Nat.reduceAdd, Nat.reduceBEq] at b_
   subst b_
   refine ex_ h fun i7 de h => ?_
   refine W_seq_join [0, 3] [4] (fun vals_ w2 => ∃ (ba : Int) (L H : Gh), vals_ = [vi ba] ∧ i7 ba ∧ Inv [d0, d2] G w L H w2 ∧ Le gx L ∧ Le jf H ∧ MTok H H w2 d1 z1 ∧ Tok H w2 d2 53 ([.slice bi z2.files_.e0_.length bj, .slice bl z2.files_.e1_.length bm, .slice bn z2.files_.e2_.length bo, vi z2.room_, .bool z2.off_, .bool z2.armed_, vi z2.left_]) ∧ Tok H w2 d0 46 ([.slice ao z0.book_.l_.length ap, .map (some d1), .pointer (some ⟨d2, 0, none⟩), vi z0.gen_, vi z0.place_]) ∧ True) (fun B_ b_ => ?_) (fun B_ b_ => ?_)
   ·
    simp only [e_, Nat.reduceAdd, Nat.reduceBEq] at b_
    subst b_
    clear de
    have cv := Le.refl gx
    have a9 := Le.refl jf
    refine W_seq_k fun K15 k15 => ?_
    refine W_region [25, 26, 27, 28, 29] rfl (Ops_step (R_move rfl) rfl rfl (Ops_step (R_nilCheck rfl) rfl rfl (Ops_step (R_fieldAddr fo46_3 rfl) rfl rfl ?_)))
    refine Ops_step (R_loadB (v := vi z0.place_) ag3 rfl aa.blk rfl) rfl rfl ?_
    refine Ops_step (R_eql rfl rfl) rfl rfl ?_
    refine Ops_nil ?_
    refine then_n (k15 _ _ ?_)
    clear k15 K15
    refine W_if rfl (fun df => ?_) (fun df => ?_)
    ·
     replace h := h.1 df
     refine W_region [4] rfl (Ops_step (R_assign rfl) rfl rfl ?_)
     refine Ops_nil ?_
     refine then_n ?_
     exact ⟨_, rfl, ⟨2, _, _, rfl, h, hI, cv, a9, ac, ah, aa, trivial⟩, ⟨rfl, rfl, trivial⟩⟩
    ·
     replace h := h.2 df
     refine W_skip ?_
     refine then_n ?_
     exact ⟨_, rfl, ⟨1, _, _, rfl, h, hI, cv, a9, ac, ah, aa, trivial⟩, ⟨rfl, rfl, trivial⟩⟩
   ·
    simp only [e_, Nat.reduceAdd, Nat.reduceBEq] at b_
    subst b_
    clear h
    clear aa
    clear ac
    clear ah
    rintro _ jw ⟨ba, jx, jy, rfl, fq, ft, cv, a9, ac, ah, aa, -⟩
    replace hI := ft
    clear ft
    have h := de ba fq
    clear de fq
    replace ab := ab.up a9
    replace ad := ad.up a9
    replace ae := ae.up a9
    replace af := af.up a9
    refine W_seq_k fun K17 k17 => ?_
    refine W_region [30, 31, 32, 33, 34, 35, 36, 37, 5] rfl (Ops_step (R_move rfl) rfl rfl (Ops_step (R_move rfl) rfl rfl (Ops_step (R_nilCheck rfl) rfl rfl (Ops_step (R_fieldAddr fo46_0 rfl) rfl rfl ?_))))
    refine Ops_step (R_fieldAddr fo44_0 rfl) rfl rfl ?_
    refine Ops_step (R_loadB (v := .slice ao z0.book_.l_.length ap) ag41 rfl aa.blk rfl) rfl rfl ?_
    refine Ops_step (R_len Try.underlying41 rfl rfl) rfl rfl ?_
    refine Ops_call (C_func bd40 rfl) rfl rfl ?_
    refine (journal_head_ok (x0 := (z0.gen_ + 1)) (x1 := (z0.book_.l_.length : Int)) hI.st (hg.up hI.le)  h).mono ?_
    rintro _ jz ⟨gy, gz, g6, j0, go, rfl, fu, cw, h⟩
    refine Exists.elim (hI.call fu (by simp)) fun dg e5 => ?_
    have g7 := hI.size
    replace hI := e5.1
    have cf := e5.2.1
    have g8 := e5.2.2
    clear e5
    replace ab := ab.up cf.hh
    replace ad := ad.up cf.hh
    replace ae := ae.up cf.hh
    replace af := af.up cf.hh
    replace ac := ac.up cf.hh cf (by simp)
    replace ah := ah.up cf (by simp)
    replace aa := aa.up cf (by simp)
    replace cw := OwnS.backS cw g7 (Le.refl _)
    clear fu cf g8
    refine ⟨_, rfl, ?_⟩
    refine Ops_step (R_assign rfl) rfl rfl ?_
    refine Ops_nil ?_
    refine then_n (k17 _ _ ?_)
    clear k17 K17
    refine W_keepB [0, 3, 4, 5] fun B_ b_ => ?_
    simp only [e_, Nat.reduceAdd, Nat.reduceBEq] at b_
    subst b_
    refine ex_ h fun i8 dh h => ?_
    refine W_seq_join [0, 3, 4] [5] (fun vals_ w2 => ∃ (bt : List UInt8) (di : Option Addr) (dj : Nat) (L H : Gh), vals_ = [.slice di bt.length dj] ∧ i8 bt ∧ Inv [d0, d2] G w L H w2 ∧ Le dg L ∧ Le go H ∧ OwnS w.heap.size 5 Gh.no H w2 di dj bt ∧ MTok H H w2 d1 z1 ∧ Tok H w2 d2 53 ([.slice bi z2.files_.e0_.length bj, .slice bl z2.files_.e1_.length bm, .slice bn z2.files_.e2_.length bo, vi z2.room_, .bool z2.off_, .bool z2.armed_, vi z2.left_]) ∧ Tok H w2 d0 46 ([.slice ao z0.book_.l_.length ap, .map (some d1), .pointer (some ⟨d2, 0, none⟩), vi z0.gen_, vi z0.place_]) ∧ True) (fun B_ b_ => ?_) (fun B_ b_ => ?_)
    ·
     simp only [e_, Nat.reduceAdd, Nat.reduceBEq] at b_
     subst b_
     clear dh
     have az := Le.refl dg
     have an := Le.refl go
     refine W_seq_k fun K21 k21 => ?_
     refine W_region [38, 39, 40, 41, 42, 43, 44] rfl (Ops_step (R_move rfl) rfl rfl (Ops_step (R_nilCheck rfl) rfl rfl (Ops_step (R_fieldAddr fo46_0 rfl) rfl rfl (Ops_step (R_fieldAddr fo44_0 rfl) rfl rfl ?_))))
     refine Ops_step (R_loadB (v := .slice ao z0.book_.l_.length ap) ag41 rfl aa.blk rfl) rfl rfl ?_
     refine Ops_step (R_len Try.underlying41 rfl rfl) rfl rfl (Ops_step (R_move rfl) rfl rfl ?_)
     refine Ops_nil ?_
     refine then_n (k21 _ _ ?_)
     clear k21 K21
     refine W_block ?_
     refine Exists.elim h fun i9 h => Exists.elim h fun ja h => ?_
     have jg := h.1
     have fv := h.2
     clear h
     refine W_loopB [0, 3, 4, 42, 43] [5, 44] (fun m vals_ w2 => ∃ (bh : List UInt8) (cm : Option Addr) (co : Nat) (bf : Int) (L H : Gh), vals_ = [.slice cm bh.length co, vi bf] ∧ i9 m bh bf ∧ Inv [d0, d2] G w L H w2 ∧ Le dg L ∧ Le go H ∧ OwnS w.heap.size 5 Gh.no H w2 cm co bh ∧ MTok H H w2 d1 z1 ∧ Tok H w2 d2 53 ([.slice bi z2.files_.e0_.length bj, .slice bl z2.files_.e1_.length bm, .slice bn z2.files_.e2_.length bo, vi z2.room_, .bool z2.off_, .bool z2.armed_, vi z2.left_]) ∧ Tok H w2 d0 46 ([.slice ao z0.book_.l_.length ap, .map (some d1), .pointer (some ⟨d2, 0, none⟩), vi z0.gen_, vi z0.place_]) ∧ True) ja _ rfl ⟨g6, gy, gz, 0, _, _, rfl, jg, hI, Le.refl _, Le.refl _, cw, ac, ah, aa, trivial⟩ fun B_ b_ => ?_
     clear jg
     simp only [e_, Nat.reduceAdd, Nat.reduceBEq] at b_
     subst b_
     clear aa
     clear ac
     clear ah
     rintro jb _ j1 ⟨bh, cm, co, bf, j2, g9, rfl, fw, fx, bg, av, ag, ac, ah, aa, -⟩
     replace hI := fx
     clear fx
     have h := fv jb bh bf fw
     clear fv fw
     replace ab := ab.up av
     replace ad := ad.up av
     replace ae := ae.up av
     replace af := af.up av
     replace az := az.trans bg
     replace an := an.trans av
     refine W_seq_k fun K23 k23 => ?_
     refine W_region [45] rfl (Ops_step (R_lss rfl rfl) rfl rfl ?_)
     refine Ops_nil ?_
     refine then_n (k23 _ _ ?_)
     clear k23 K23
     refine W_seq_k fun K24 k24 => ?_
     refine W_if rfl (fun dk => ?_) (fun dk => ?_)
     ·
      replace h := h.1 dk
      refine W_skip ?_
      refine then_n (k24 _ _ ?_)
      clear k24 K24
      refine W_seq_k fun K26 k26 => ?_
      refine W_block ?_
      refine W_seq_k fun K27 k27 => ?_
      refine W_region [46, 47, 48, 7, 6, none] rfl (Ops_step (R_move rfl) rfl rfl ?_)
      refine ex_ h fun dl cx h => ?_
      have ia := (Sl.atN (n := 2) rfl (by decide) ab cx).1
      refine Exists.elim (Sl.atN (n := 2) rfl (by decide) ab cx).2 fun j3 dm => ?_
      have ib := dm.1
      have ic := dm.2
      clear dm
      refine Ops_step (R_indexSl Try.underlying41 sz85 rfl rfl cx.1 cx.lt ia) rfl rfl ?_
      obtain ⟨dn, dp, rfl, ⟨gp, gq⟩⟩ := ib
      refine Ops_step (R_loadCs (cs := [vi dl.label_, .slice dn dl.data_.length dp]) ag85 sz85 rfl (fun j_ v_ hv_ => hI.st _ _ (ic j_ v_ hv_))) rfl rfl ?_
      have gr := hI
      refine Ops_to (R_alloc zr85) rfl rfl ?_
      rintro _ j4 ⟨gt, rfl, dq, fy, bu⟩
      replace hI := hI.fr0 bu
      replace ac := ac.fr0 bu
      replace ah := ah.fr0 bu
      replace aa := aa.fr0 bu
      replace ag := ag.fr0 bu
      have bc : Tok g9 _ gt 85 ([vi 0, .slice none 0 0]) := ⟨fy.to rfl, Out.ge gr.st (Nat.le_of_eq dq.symm)⟩
      have dr : w.heap.size ≤ gt := dq ▸ gr.size
      clear fy dq gr bu
      refine Ops_step (R_assign rfl) rfl rfl ?_
      refine Ops_to0 (R_storeN sz85 rfl rfl rfl bc.blk (Nat.le_of_ble_eq_true rfl) rfl) rfl ?_
      rintro _ j5 ⟨f0, bv⟩
      replace hI := hI.tok bv (out1 bc.out) (new1 dr)
      replace ac := ac.fr bv (ac.neT bc)
      replace ah := ah.fr bv (ah.apart bc (by decide))
      replace aa := aa.fr bv (aa.apart bc (by decide))
      replace ag := ag.fr bv (ag.ne bc.blk (by decide))
      replace bc : Tok g9 _ gt 85 ([vi dl.label_, .slice dn dl.data_.length dp]) := ⟨f0, bc.out⟩
      clear bv f0
      refine Ops_nil ?_
      refine then_n (k27 _ _ ?_)
      clear k27 K27
      refine W_region [49, 50, 51, 52, 53, 5] rfl (Ops_step (R_move rfl) rfl rfl (Ops_step (R_move rfl) rfl rfl (Ops_step (R_loadN ag85 sz85 rfl bc.blk (Nat.le_of_ble_eq_true rfl)) rfl rfl ?_)))
      refine Ops_call (C_func bd41 rfl) rfl rfl ?_
      refine (journal_tell_ok (x0 := bf) (x1 := dl) hI.st (hg.up hI.le) ⟨dn, dp, rfl, ⟨gp, gq⟩⟩ h).mono ?_
      have bq := ag.lt
      rintro _ j6 ⟨ie, ig, f8, j7, j8, rfl, f9, aw, h⟩
      refine Exists.elim (hI.call f9 (by simp)) fun jh e8 => ?_
      have ii := hI.size
      replace hI := e8.1
      have bd := e8.2.1
      have ij := e8.2.2
      clear e8
      replace ab := ab.up bd.hh
      replace ad := ad.up bd.hh
      replace ae := ae.up bd.hh
      replace af := af.up bd.hh
      replace az := az.trans bd.ll
      replace an := an.trans bd.hh
      replace ac := ac.up bd.hh bd (by simp)
      replace ah := ah.up bd (by simp)
      replace aa := aa.up bd (by simp)
      replace ag := ag.up (Le.refl _) bd (by simp)
      replace bg := bg.trans bd.ll
      replace av := av.trans bd.hh
      have br : ∀ i ∈ bk ie ig, i ∉ bk cm co := sep_new aw.off bq
      replace aw := OwnS.backS aw ii (Le.refl _)
      clear f9 bd ij
      refine ⟨_, rfl, ?_⟩
      refine Exists.elim (aw.freeze hI) fun j9 c5 => Exists.elim c5 fun ka c5 => ?_
      replace hI := c5.1
      have be := c5.2.1
      have ik := c5.2.2.1 (Le.no _)
      have ji := aw.cap
      replace ab := ab.up be.hh
      replace ad := ad.up be.hh
      replace ae := ae.up be.hh
      replace af := af.up be.hh
      replace az := az.trans be.ll
      replace an := an.trans be.hh
      replace ac := ac.up be.hh be (aw.old ce)
      replace ah := ah.up be (aw.old bp)
      replace aa := aa.up be (aw.old cd)
      replace ag := ag.up (Le.refl _) be (sep_sym br)
      replace bg := bg.trans be.ll
      replace av := av.trans be.hh
      clear c5 be aw
      have il := h.1
      replace h := h.2
      refine Ops_to (X_append (α := UInt8) (xs := bh) (ys := f8) el29 rfl rfl ag (Srcs.sc (Srcs.ofSl Try.underlying29 (ik.up hI.sub) hI.st (by decide))) hI.st il (by decide) hI.size) rfl rfl ?_
      rintro _ kb ⟨jc, jd, rfl, im, cp, gu⟩
      clear gu
      replace hI := hI.tok cp ag.out (ag.new (Nat.le_refl _))
      replace ac := ac.fr cp (ag.old ce)
      replace ah := ah.fr cp (ag.old bp)
      replace aa := aa.fr cp (ag.old cd)
      clear cp ag
      refine Ops_step (R_assign rfl) rfl rfl ?_
      refine Ops_nil ?_
      refine block_n ?_
      refine then_n (k26 _ _ ?_)
      clear k26 K26
      refine W_keepB [0, 3, 4, 5, 42, 43, 44] fun B_ b_ => ?_
      simp only [e_, Nat.reduceAdd, Nat.reduceBEq] at b_
      subst b_
      refine W_region [54, 44] rfl ?_
      have ga := h.1
      replace h := h.2
      refine Ops_step (R_add rfl rfl (wI ga.1 ga.2)) rfl rfl (Ops_step (R_move rfl) rfl rfl ?_)
      refine Ops_nil ?_
      refine then_n ?_
      exact h.elim fun m_ h => ⟨m_, _, h.1, rfl, ⟨(bh ++ f8), jc, jd, (bf + 1), _, _, rfl, h.2, hI, bg, av, im, ac, ah, aa, trivial⟩, ⟨rfl, rfl, rfl, rfl, rfl, trivial⟩⟩
     ·
      replace h := h.2 dk
      refine W_exit ?_
      refine then_exit ?_
      clear k24 K24
      refine then_exit ?_
      refine block_exit ?_
      refine then_n ?_
      exact ⟨_, rfl, ⟨bh, cm, co, _, _, rfl, h, hI, az, an, ag, ac, ah, aa, trivial⟩, ⟨rfl, rfl, rfl, trivial⟩⟩
    ·
     simp only [e_, Nat.reduceAdd, Nat.reduceBEq] at b_
     subst b_
     clear h
     clear aa
     clear ac
     clear ah
     rintro _ kc ⟨bt, di, dj, ke, kf, rfl, gb, gc, az, an, ax, ac, ah, aa, -⟩
     replace hI := gc
     clear gc
     have h := dh bt gb
     clear dh gb
     replace ab := ab.up an
     replace ad := ad.up an
     replace ae := ae.up an
     replace af := af.up an
     refine W_seq_k fun K37 k37 => ?_
     refine W_seq_k fun K38 k38 => ?_
     refine W_region [55, 56, 57, 58, 59, 60, 8] rfl (Ops_step (R_move rfl) rfl rfl (Ops_step (R_nilCheck rfl) rfl rfl (Ops_step (R_fieldAddr fo46_1 rfl) rfl rfl ?_)))
     refine Ops_step (R_loadB (v := .pointer (some ⟨d2, 0, none⟩)) ag25 rfl aa.blk rfl) rfl rfl ?_
     refine Ops_step (R_move rfl) rfl rfl ?_
     refine Ops_call (C_func bd42 rfl) rfl rfl ?_
     refine (disk_Disk_Wipe_ok (x1 := ba) (z0 := z2) hI.st (hg.up hI.le) ah ca ad cb ae cc af h).mono ?_
     rintro _ kg ⟨io, dt, du, dv, dw, dx, dy, dz, kh, ki, rfl, gf, ay, bw, aq, bx, ar, bz, au, h⟩
     refine Exists.elim (hI.call gf (mem1 (by simp))) fun jj e9 => ?_
     have jk := hI.size
     replace hI := e9.1
     have cg := e9.2.1
     have ip := e9.2.2
     clear e9
     replace ab := ab.up cg.hh
     replace ad := ad.up cg.hh
     replace ae := ae.up cg.hh
     replace af := af.up cg.hh
     replace ac := ac.up cg.hh cg (ac.neT ah)
     replace aa := aa.up cg (aa.apart ah (by decide))
     replace ax := ax.up (Le.refl _) cg (ax.oldt bp)
     clear ah
     clear gf cg ip
     refine ⟨_, rfl, ?_⟩
     refine Ops_step (R_assign rfl) rfl rfl ?_
     refine Ops_nil ?_
     refine then_n (k38 _ _ ?_)
     clear k38 K38
     refine W_keepB [0, 3, 4, 5, 8] fun B_ b_ => ?_
     simp only [e_, Nat.reduceAdd, Nat.reduceBEq] at b_
     subst b_
     refine W_seq_k fun K41 k41 => ?_
     refine W_region [61, 62] rfl (Ops_step (R_move rfl) rfl rfl (Ops_step (R_neq rfl rfl) rfl rfl ?_))
     refine Ops_nil ?_
     refine then_n (k41 _ _ ?_)
     clear k41 K41
     refine W_if rfl (fun d5 => ?_) (fun d5 => ?_)
     ·
      replace h := h.1 d5
      refine W_seq_k fun K43 k43 => ?_
      refine W_region [63, 2] rfl (Ops_step (R_move rfl) rfl rfl (Ops_step (R_assign rfl) rfl rfl ?_))
      refine Ops_nil ?_
      refine then_n (k43 _ _ ?_)
      clear k43 K43
      refine W_keepB [2] fun B_ b_ => ?_
      simp only [e_, Nat.reduceAdd, Nat.reduceBEq] at b_
      subst b_
      refine W_ret ?_
      refine then_ret ?_
      clear k37 K37
      refine ⟨_, ⟨_, _, rfl, rfl, rfl⟩, ?_⟩
      exact ⟨io, z0, ao, ap, dt, du, dv, dw, dx, dy, dz, _, _, rfl, hI, aa, a8, ab, ay, bw, aq, bx, ar, bz, au, h⟩
     ·
      replace h := h.2 d5
      refine W_skip ?_
      refine then_n (k37 _ _ ?_)
      clear k37 K37
      refine W_seq_k fun K45 k45 => ?_
      refine W_seq_k fun K46 k46 => ?_
      refine W_region [64, 65, 66, 67, 68, 69, 70, 9] rfl (Ops_step (R_move rfl) rfl rfl (Ops_step (R_nilCheck rfl) rfl rfl (Ops_step (R_fieldAddr fo46_1 rfl) rfl rfl ?_)))
      refine Ops_step (R_loadB (v := .pointer (some ⟨d2, 0, none⟩)) ag25 rfl aa.blk rfl) rfl rfl ?_
      refine Ops_step (R_move rfl) rfl rfl (Ops_step (R_move rfl) rfl rfl ?_)
      refine Exists.elim (ax.freeze hI) fun kj c6 => Exists.elim c6 fun kk c6 => ?_
      replace hI := c6.1
      have ci := c6.2.1
      have iq := c6.2.2.1 (Le.no _)
      have ir := ax.cap
      replace ab := ab.up ci.hh
      replace ac := ac.up ci.hh ci (ax.old ce)
      replace aa := aa.up ci (ax.old cd)
      replace ay := ay.up ci (ax.old bp)
      replace aq := aq.up ci.hh
      replace ar := ar.up ci.hh
      replace au := au.up ci.hh
      clear c6 ci ax
      refine Ops_call (C_func bd26 rfl) rfl rfl ?_
      refine (disk_Disk_Append_ok (x1 := ba) (x2 := bt) (z0 := dt) hI.st (hg.up hI.le) ay bw aq bx ar bz au ir (iq.up hI.sub) h).mono ?_
      rintro _ kl ⟨it, d6, d7, d8, d9, ea, eb, ec, km, iu, rfl, gg, al, b4, a5, b5, a6, b6, a7, h⟩
      refine Exists.elim (hI.call gg (mem1 (by simp))) fun jl fa => ?_
      have jm := hI.size
      replace hI := fa.1
      have cq := fa.2.1
      have iv := fa.2.2
      clear fa
      replace ab := ab.up cq.hh
      replace ac := ac.up cq.hh cq (ac.neT ay)
      replace aa := aa.up cq (aa.apart ay (by decide))
      replace aq := aq.up cq.hh
      replace ar := ar.up cq.hh
      replace au := au.up cq.hh
      clear ay
      clear gg cq iv
      refine ⟨_, rfl, ?_⟩
      refine Ops_step (R_assign rfl) rfl rfl ?_
      refine Ops_nil ?_
      refine then_n (k46 _ _ ?_)
      clear k46 K46
      refine W_keepB [0, 3, 4, 9] fun B_ b_ => ?_
      simp only [e_, Nat.reduceAdd, Nat.reduceBEq] at b_
      subst b_
      refine W_seq_k fun K50 k50 => ?_
      refine W_region [71, 72] rfl (Ops_step (R_move rfl) rfl rfl (Ops_step (R_neq rfl rfl) rfl rfl ?_))
      refine Ops_nil ?_
      refine then_n (k50 _ _ ?_)
      clear k50 K50
      refine W_if rfl (fun ee => ?_) (fun ee => ?_)
      ·
       replace h := h.1 ee
       refine W_seq_k fun K52 k52 => ?_
       refine W_region [73, 2] rfl (Ops_step (R_move rfl) rfl rfl (Ops_step (R_assign rfl) rfl rfl ?_))
       refine Ops_nil ?_
       refine then_n (k52 _ _ ?_)
       clear k52 K52
       refine W_keepB [2] fun B_ b_ => ?_
       simp only [e_, Nat.reduceAdd, Nat.reduceBEq] at b_
       subst b_
       refine W_ret ?_
       refine then_ret ?_
       clear k45 K45
       refine ⟨_, ⟨_, _, rfl, rfl, rfl⟩, ?_⟩
       exact ⟨it, z0, ao, ap, d6, d7, d8, d9, ea, eb, ec, _, _, rfl, hI, aa, a8, ab, al, b4, a5, b5, a6, b6, a7, h⟩
      ·
       replace h := h.2 ee
       refine W_skip ?_
       refine then_n (k45 _ _ ?_)
       clear k45 K45
       refine W_seq_k fun K54 k54 => ?_
       refine W_region [74, 75, 76, 77, 78, 79, none, 80, 81, none] rfl (Ops_step (R_move rfl) rfl rfl (Ops_step (R_move rfl) rfl rfl (Ops_step (R_move rfl) rfl rfl (Ops_step (R_move rfl) rfl rfl ?_))))
       refine Ops_step (R_nilCheck rfl) rfl rfl (Ops_step (R_fieldAddr fo46_2 rfl) rfl rfl ?_)
       refine Ops_to0 (R_store sz3 rfl rfl aa.blk (by show 3 < 5; decide) rfl) rfl ?_
       rintro _ ko ⟨gh, cy⟩
       replace hI := hI.tok cy (out1 aa.out) (mem1 (by simp))
       replace ac := ac.fr cy (ac.neT aa)
       replace al := al.fr cy (al.apart aa (by decide))
       replace aa : Tok iu _ d0 46 ([.slice ao z0.book_.l_.length ap, .map (some d1), .pointer (some ⟨d2, 0, none⟩), vi (z0.gen_ + 1), vi z0.place_]) := ⟨gh, aa.out⟩
       clear cy gh
       refine Ops_step (R_nilCheck rfl) rfl rfl (Ops_step (R_fieldAddr fo46_3 rfl) rfl rfl ?_)
       refine Ops_to0 (R_store sz3 rfl rfl aa.blk (by show 4 < 5; decide) rfl) rfl ?_
       rintro _ kp ⟨gi, cz⟩
       replace hI := hI.tok cz (out1 aa.out) (mem1 (by simp))
       replace ac := ac.fr cz (ac.neT aa)
       replace al := al.fr cz (al.apart aa (by decide))
       replace aa : Tok iu _ d0 46 ([.slice ao z0.book_.l_.length ap, .map (some d1), .pointer (some ⟨d2, 0, none⟩), vi (z0.gen_ + 1), vi ba]) := ⟨gi, aa.out⟩
       clear cz gi
       refine Ops_nil ?_
       refine then_n (k54 _ _ ?_)
       clear k54 K54
       refine W_keepB [0, 3] fun B_ b_ => ?_
       simp only [e_, Nat.reduceAdd, Nat.reduceBEq] at b_
       subst b_
       refine W_seq_k fun K58 k58 => ?_
       refine W_seq_k fun K59 k59 => ?_
       refine W_region [82, 83, 84, 85, 86, 10] rfl (Ops_step (R_move rfl) rfl rfl (Ops_step (R_nilCheck rfl) rfl rfl (Ops_step (R_fieldAddr fo46_1 rfl) rfl rfl ?_)))
       refine Ops_step (R_loadB (v := .pointer (some ⟨d2, 0, none⟩)) ag25 rfl aa.blk rfl) rfl rfl ?_
       refine Ops_call (C_func bd42 rfl) rfl rfl ?_
       refine (disk_Disk_Wipe_ok (x1 := 0) (z0 := d6) hI.st (hg.up hI.le) al b4 a5 b5 a6 b6 a7 h).mono ?_
       rintro _ kq ⟨iw, eg, eh, ei, ej, ek, en, eo, kr, kt, rfl, gj, am, b7, ai, b8, aj, b9, ak, h⟩
       refine Exists.elim (hI.call gj (mem1 (by simp))) fun jn fb => ?_
       have jo := hI.size
       replace hI := fb.1
       have cr := fb.2.1
       have ix := fb.2.2
       clear fb
       replace ab := ab.up cr.hh
       replace ac := ac.up cr.hh cr (ac.neT al)
       replace aa := aa.up cr (aa.apart al (by decide))
       replace a5 := a5.up cr.hh
       replace a6 := a6.up cr.hh
       replace a7 := a7.up cr.hh
       clear al
       clear gj cr ix
       refine ⟨_, rfl, ?_⟩
       refine Ops_step (R_assign rfl) rfl rfl ?_
       refine Ops_nil ?_
       refine then_n (k59 _ _ ?_)
       clear k59 K59
       refine W_seq_k fun K61 k61 => ?_
       refine W_region [87, 88] rfl (Ops_step (R_move rfl) rfl rfl (Ops_step (R_neq rfl rfl) rfl rfl ?_))
       refine Ops_nil ?_
       refine then_n (k61 _ _ ?_)
       clear k61 K61
       refine W_keepB [0, 3, 10, 88] fun B_ b_ => ?_
       simp only [e_, Nat.reduceAdd, Nat.reduceBEq] at b_
       subst b_
       refine W_if rfl (fun ep => ?_) (fun ep => ?_)
       ·
        replace h := h.1 ep
        refine W_seq_k fun K64 k64 => ?_
        refine W_region [89, 2] rfl (Ops_step (R_move rfl) rfl rfl (Ops_step (R_assign rfl) rfl rfl ?_))
        refine Ops_nil ?_
        refine then_n (k64 _ _ ?_)
        clear k64 K64
        refine W_ret ?_
        refine then_ret ?_
        clear k58 K58
        refine ⟨_, ⟨_, _, rfl, rfl, rfl⟩, ?_⟩
        exact ⟨iw, (journal_Journal.mk z0.book_ (z0.gen_ + 1) ba), ao, ap, eg, eh, ei, ej, ek, en, eo, _, _, rfl, hI, aa, a8, ab, am, b7, ai, b8, aj, b9, ak, h⟩
       ·
        replace h := h.2 ep
        refine W_skip ?_
        refine then_n (k58 _ _ ?_)
        clear k58 K58
        refine W_seq_k fun K65 k65 => ?_
        refine W_drawF [90, 91, 92, 93, 94, 95, 96, 97, 98, 99, 100, 101, 102, 2] [(0, true), (1, true), (2, true), (3, true), (4, true), (5, true), (6, true), (7, true), (8, true), (9, true), (10, true), (11, false), (12, false), (13, true)] TJtD.hm rfl (by kernel_rfl) fun je ku cj ct => ?_
        replace hI := hI.fr0 ct
        replace ac := ac.fr0 ct
        replace aa := aa.fr0 ct
        replace am := am.fr0 ct
        clear ct
        refine HSp (R_move rfl) rfl rfl (HSp (R_nilCheck rfl) rfl rfl (HSp (R_fieldAddr fo46_1 rfl) rfl rfl ?_))
        refine HS_loadB (v := .pointer (some ⟨d2, 0, none⟩)) ag25 rfl aa.blk rfl rfl rfl ?_
        refine HSp (R_move rfl) rfl rfl (HSp (R_move rfl) rfl rfl (HSp (R_nilCheck rfl) rfl rfl (HSp (R_fieldAddr fo46_0 rfl) rfl rfl (HSp (R_fieldAddr fo44_0 rfl) rfl rfl ?_))))
        refine HS_loadB (v := .slice ao z0.book_.l_.length ap) ag41 rfl aa.blk rfl rfl rfl ?_
        refine HSp (R_len Try.underlying41 rfl rfl) rfl rfl ?_
        refine HS_call [3] _ rfl (by rw [cj]; kernel_rfl) (C_func bd40 rfl) rfl rfl ?_
        refine (journal_head_ok (x0 := (z0.gen_ + 1)) (x1 := (z0.book_.l_.length : Int)) hI.st (hg.up hI.le)  h).mono ?_
        rintro _ kv ⟨jp, jq, iy, kw, kx, rfl, gk, a4, h⟩
        refine Exists.elim (hI.call gk (by simp)) fun jr fc => ?_
        have iz := hI.size
        replace hI := fc.1
        have ck := fc.2.1
        have i0 := fc.2.2
        clear fc
        replace ab := ab.up ck.hh
        replace ac := ac.up ck.hh ck (by simp)
        replace aa := aa.up ck (by simp)
        replace am := am.up ck (by simp)
        replace ai := ai.up ck.hh
        replace aj := aj.up ck.hh
        replace ak := ak.up ck.hh
        replace a4 := OwnS.backS a4 iz (Le.refl _)
        clear gk ck i0
        refine ⟨_, rfl, ⟨(aa.blk.at_ rfl), trivial⟩, ?_⟩
        refine Exists.elim (a4.freeze hI) fun ky c7 => Exists.elim c7 fun kz c7 => ?_
        replace hI := c7.1
        have cl := c7.2.1
        have i1 := c7.2.2.1 (Le.no _)
        have i2 := a4.cap
        replace ab := ab.up cl.hh
        replace ac := ac.up cl.hh cl (a4.old ce)
        replace aa := aa.up cl (a4.old cd)
        replace am := am.up cl (a4.old bp)
        replace ai := ai.up cl.hh
        replace aj := aj.up cl.hh
        replace ak := ak.up cl.hh
        clear c7 cl a4
        refine HS_call [] _ rfl (by rw [cj]; kernel_rfl) (C_func bd26 rfl) rfl rfl ?_
        refine (disk_Disk_Append_ok (x1 := 0) (x2 := iy) (z0 := eg) hI.st (hg.up hI.le) am b7 ai b8 aj b9 ak i2 (i1.up hI.sub) h).mono ?_
        rintro _ la ⟨i3, gv, eq, et, eu, ew, ex, ey, lb, lc, rfl, gl, fd, c8, c9, da, db, dc, dd, h⟩
        refine Exists.elim (hI.call gl (mem1 (by simp))) fun js fe => ?_
        have jt := hI.size
        replace hI := fe.1
        have cu := fe.2.1
        have i4 := fe.2.2
        clear fe
        replace ab := ab.up cu.hh
        replace ac := ac.up cu.hh cu (ac.neT am)
        replace aa := aa.up cu (aa.apart am (by decide))
        replace ai := ai.up cu.hh
        replace aj := aj.up cu.hh
        replace ak := ak.up cu.hh
        clear am
        clear gl cu i4
        refine ⟨_, rfl, trivial, ?_⟩
        refine HSp (R_assign rfl) rfl rfl ?_
        refine HS_nil ?_
        clear cj
        refine then_n (k65 _ _ ?_)
        clear k65 K65
        refine W_keepB [2] fun B_ b_ => ?_
        simp only [e_, Nat.reduceAdd, Nat.reduceBEq] at b_
        subst b_
        refine W_ret ?_
        refine ⟨_, ⟨_, _, rfl, rfl, rfl⟩, ?_⟩
        exact ⟨i3, (journal_Journal.mk z0.book_ (z0.gen_ + 1) ba), ao, ap, gv, eq, et, eu, ew, ex, ey, _, _, rfl, hI, aa, a8, ab, fd, c8, c9, da, db, dc, dd, h⟩

theorem journal_Open_ok {G : Gh} {w : World} (hS : St G w) (hg : GL G) {d0 : Nat} {z0 : disk_Disk} {bw : Option Addr} {bx : Nat} {bz : Option Addr} {b4 : Nat} {b5 : Option Addr} {b6 : Nat} (ac : Tok G w d0 53 ([.slice bw z0.files_.e0_.length bx, .slice bz z0.files_.e1_.length b4, .slice b5 z0.files_.e2_.length b6, vi z0.room_, .bool z0.off_, .bool z0.armed_, vi z0.left_])) (ci : z0.files_.e0_.length ≤ bx) (ae : Sl G bw z0.files_.e0_) (cj : z0.files_.e1_.length ≤ b4) (af : Sl G bz z0.files_.e1_) (ck : z0.files_.e2_.length ≤ b6) (ag : Sl G b5 z0.files_.e2_) {Q0 : Int → disk_Disk → Prop} {Q1 : Int → disk_Disk → journal_Journal → (List (Int × Int)) → Prop} (h : journal_Open z0 Q0 Q1) : Calls Try.prog 20 #[.pointer (some ⟨d0, 0, none⟩)] w fun e w2 => (∃ (r1 : Int) (y0 : disk_Disk) (fo : Option Addr) (fp : Nat) (fq : Option Addr) (ft : Nat) (fu : Option Addr) (fv : Nat) (L H : Gh), e = .returned (.tuple #[.pointer none, vi r1]) ∧ Inv [d0] G w L H w2 ∧ Tok H w2 d0 53 ([.slice fo y0.files_.e0_.length fp, .slice fq y0.files_.e1_.length ft, .slice fu y0.files_.e2_.length fv, vi y0.room_, .bool y0.off_, .bool y0.armed_, vi y0.left_]) ∧ y0.files_.e0_.length ≤ fp ∧ Sl H fo y0.files_.e0_ ∧ y0.files_.e1_.length ≤ ft ∧ Sl H fq y0.files_.e1_ ∧ y0.files_.e2_.length ≤ fv ∧ Sl H fu y0.files_.e2_ ∧ Q0 r1 y0) ∨ (∃ (r1 : Int) (y0 : disk_Disk) (fo : Option Addr) (fp : Nat) (fq : Option Addr) (ft : Nat) (fu : Option Addr) (fv : Nat) (o1 : Nat) (y1 : journal_Journal) (kj : Option Addr) (kk : Nat) (o2 : Nat) (y2 : List (Int × Int)) (L H : Gh), e = .returned (.tuple #[.pointer (some ⟨o1, 0, none⟩), vi r1]) ∧ Inv [d0] G w L H w2 ∧ Tok H w2 d0 53 ([.slice fo y0.files_.e0_.length fp, .slice fq y0.files_.e1_.length ft, .slice fu y0.files_.e2_.length fv, vi y0.room_, .bool y0.off_, .bool y0.armed_, vi y0.left_]) ∧ y0.files_.e0_.length ≤ fp ∧ Sl H fo y0.files_.e0_ ∧ y0.files_.e1_.length ≤ ft ∧ Sl H fq y0.files_.e1_ ∧ y0.files_.e2_.length ≤ fv ∧ Sl H fu y0.files_.e2_ ∧ w.heap.size ≤ o1 ∧ Tok H w2 o1 46 ([.slice kj y1.book_.l_.length kk, .map (some o2), .pointer (some ⟨d0, 0, none⟩), vi y1.gen_, vi y1.place_]) ∧ y1.book_.l_.length ≤ kk ∧ Sl H kj y1.book_.l_ ∧ w.heap.size ≤ o2 ∧ MTok H H w2 o2 y2 ∧ Q1 r1 y0 y1 y2) := by
 unfold journal_Open at h
 have hI := Inv.start (M := [d0]) hS
 refine calls_W 133 Try.func20 rfl Try.ntmps20 rfl [.tmp 2, .tmp 3] rfl ?_
 have fh := ac.blk.lt
 refine W_seq_k fun K1 k1 => ?_
 refine W_region [2, 3] rfl (Ops_step (R_assign rfl) rfl rfl (Ops_step (R_assign rfl) rfl rfl ?_))
 refine Ops_nil ?_
 refine then_n (k1 _ _ ?_)
 clear k1 K1
 refine W_seq_k fun K2 k2 => ?_
 refine W_region [26, 27, 28, 29, 30, 4, none] rfl ?_
 have bu := hI
 refine Ops_to (R_makeMap) rfl rfl ?_
 rintro _ rl ⟨d5, rfl, mh, m4, mi⟩
 replace hI := hI.fr0 mi
 replace ac := ac.fr0 mi
 have am : MTok G G _ d5 ([] : List (Int × Int)) := MTok.made m4 (Out.ge bu.st (Nat.le_of_eq mh.symm))
 have fi : w.heap.size ≤ d5 := mh ▸ bu.size
 clear m4 mh bu mi
 refine Ops_step (R_build (pl := [(1, 1)]) (cs := [.slice none 0 0, .map (some d5)]) zr44 pl44 rfl rfl rfl) rfl rfl ?_
 refine Ops_step (R_move rfl) rfl rfl ?_
 refine Ops_step (R_build (pl := [(0, 2), (2, 1)]) (cs := [.slice none 0 0, .map (some d5), .pointer (some ⟨d0, 0, none⟩), vi 0, vi 0]) zr46 pl46 rfl rfl rfl) rfl rfl ?_
 have bu := hI
 refine Ops_to (R_box rfl) rfl rfl ?_
 rintro _ rm ⟨dj, rfl, mj, m5, jz⟩
 replace hI := hI.fr0 jz
 replace ac := ac.fr0 jz
 replace am := am.fr0 jz
 have fw : Tok G _ dj 46 ([.slice none 0 0, .map (some d5), .pointer (some ⟨d0, 0, none⟩), vi 0, vi 0]) := ⟨m5.to rfl, Out.ge bu.st (Nat.le_of_eq mj.symm)⟩
 have cz : w.heap.size ≤ dj := mj ▸ bu.size
 clear m5 mj bu jz
 have bu := hI
 refine Ops_to (R_alloc zr26) rfl rfl ?_
 rintro _ rn ⟨gt, rfl, ml, m6, ik⟩
 replace hI := hI.fr0 ik
 replace ac := ac.fr0 ik
 replace am := am.fr0 ik
 replace fw := fw.fr0 ik
 have ab : Tok G _ gt 26 ([.pointer none]) := ⟨m6.to rfl, Out.ge bu.st (Nat.le_of_eq ml.symm)⟩
 have j0 : w.heap.size ≤ gt := ml ▸ bu.size
 clear m6 ml bu ik
 refine Ops_to0 (R_store sz26 rfl rfl ab.blk (by show 0 < 1; decide) rfl) rfl ?_
 rintro _ ro ⟨m7, il⟩
 replace hI := hI.tok il (out1 ab.out) (new1 j0)
 replace ac := ac.fr il (ac.apart ab (by decide))
 replace am := am.fr il (am.neT ab)
 replace fw := fw.fr il (fw.apart ab (by decide))
 replace ab : Tok G _ gt 26 ([.pointer (some ⟨dj, 0, none⟩)]) := ⟨m7, ab.out⟩
 clear il m7
 refine Ops_nil ?_
 refine then_n (k2 _ _ ?_)
 clear k2 K2
 refine W_keepB [0, 4] fun B_ b_ => ?_
 simp only [e_, Nat.reduceAdd, Nat.reduceBEq] at b_
 subst b_
 refine W_seq_k fun K8 k8 => ?_
 refine W_region [5] rfl ?_
 have bu := hI
 refine Ops_to (R_alloc zr41) rfl rfl ?_
 rintro _ rp ⟨j1, rfl, mm, m8, gu⟩
 replace hI := hI.fr0 gu
 replace ac := ac.fr0 gu
 replace am := am.fr0 gu
 replace fw := fw.fr0 gu
 replace ab := ab.fr0 gu
 have oh : Tok G _ j1 41 ([.slice none 0 0]) := ⟨m8.to rfl, Out.ge bu.st (Nat.le_of_eq mm.symm)⟩
 have j2 : w.heap.size ≤ j1 := mm ▸ bu.size
 clear m8 mm bu gu
 refine Ops_nil ?_
 refine then_n (k8 _ _ ?_)
 clear k8 K8
 refine ex_ h fun ol im h => ?_
 refine W_seq_join [0, 4, 5] [] (fun vals_ w2 => ∃ (bl : journal_Journal) (c5 : Option Addr) (c6 : Nat) (bg : List journal_record) (bp : Option Addr) (bq : Nat) (L H : Gh), vals_ = [] ∧ ol bl bg ∧ Inv [d0] G w L H w2 ∧ Le Gh.no L ∧ Le G H ∧ Tok H w2 dj 46 ([.slice c5 bl.book_.l_.length c6, .map (some d5), .pointer (some ⟨d0, 0, none⟩), vi bl.gen_, vi bl.place_]) ∧ bl.book_.l_.length ≤ c6 ∧ Sl H c5 bl.book_.l_ ∧ Tok H w2 j1 41 ([.slice bp bg.length bq]) ∧ bg.length ≤ bq ∧ Sl H bp bg ∧ Tok H w2 d0 53 ([.slice bw z0.files_.e0_.length bx, .slice bz z0.files_.e1_.length b4, .slice b5 z0.files_.e2_.length b6, vi z0.room_, .bool z0.off_, .bool z0.armed_, vi z0.left_]) ∧ MTok H H w2 d5 ([] : List (Int × Int)) ∧ Tok H w2 gt 26 ([.pointer (some ⟨dj, 0, none⟩)]) ∧ True) (fun B_ b_ => ?_) (fun B_ b_ => ?_)
 ·
  simp only [e_, Nat.reduceAdd, Nat.reduceBEq] at b_
  subst b_
  clear im
  have a8 := Le.refl Gh.no
  have ax := Le.refl G
  refine W_seq_k fun K11 k11 => ?_
  refine W_region [6] rfl (Ops_step (R_assign rfl) rfl rfl ?_)
  refine Ops_nil ?_
  refine then_n (k11 _ _ ?_)
  clear k11 K11
  refine W_block ?_
  refine Exists.elim h fun om h => Exists.elim h fun oo h => ?_
  have kl := h.1
  have km := h.2
  clear h
  refine W_loopB [0, 4, 5] [6] (fun m vals_ w2 => ∃ (d8 : Int) (al : journal_Journal) (a5 : Option Addr) (a6 : Nat) (bm : List journal_record) (br : Option Addr) (bt : Nat) (L H : Gh), vals_ = [vi d8] ∧ om m d8 al bm ∧ Inv [d0] G w L H w2 ∧ Le Gh.no L ∧ Le G H ∧ Tok H w2 dj 46 ([.slice a5 al.book_.l_.length a6, .map (some d5), .pointer (some ⟨d0, 0, none⟩), vi al.gen_, vi al.place_]) ∧ al.book_.l_.length ≤ a6 ∧ Sl H a5 al.book_.l_ ∧ Tok H w2 j1 41 ([.slice br bm.length bt]) ∧ bm.length ≤ bt ∧ Sl H br bm ∧ Tok H w2 d0 53 ([.slice bw z0.files_.e0_.length bx, .slice bz z0.files_.e1_.length b4, .slice b5 z0.files_.e2_.length b6, vi z0.room_, .bool z0.off_, .bool z0.armed_, vi z0.left_]) ∧ MTok H H w2 d5 ([] : List (Int × Int)) ∧ Tok H w2 gt 26 ([.pointer (some ⟨dj, 0, none⟩)]) ∧ True) oo _ rfl ⟨1, (journal_Journal.mk (journal_book.mk []) 0 0), none, 0, [], none, 0, _, _, rfl, kl, hI, Le.refl _, Le.refl _, fw, (Nat.le_refl 0), Sl.nil, oh, (Nat.le_refl 0), Sl.nil, ac, am, ab, trivial⟩ fun B_ b_ => ?_
  clear kl
  simp only [e_, Nat.reduceAdd, Nat.reduceBEq] at b_
  subst b_
  clear am
  clear ab
  clear ac
  rintro oq _ po ⟨d8, al, a5, a6, bm, br, bt, m9, na, rfl, ko, kp, ba, az, aa, dk, aj, ad, eh, ak, ac, am, ab, -⟩
  replace hI := kp
  clear kp
  have h := km oq d8 al bm ko
  clear km ko
  replace ae := ae.up az
  replace af := af.up az
  replace ag := ag.up az
  replace a8 := a8.trans ba
  replace ax := ax.trans az
  refine W_seq_k fun K13 k13 => ?_
  refine W_seq_k fun K14 k14 => ?_
  refine W_region [31, 32] rfl (Ops_step (R_move rfl) rfl rfl (Ops_step (R_lss rfl rfl) rfl rfl ?_))
  refine Ops_nil ?_
  refine then_n (k14 _ _ ?_)
  clear k14 K14
  refine W_if rfl (fun io => ?_) (fun io => ?_)
  ·
   replace h := h.1 io
   refine W_skip ?_
   refine then_n (k13 _ _ ?_)
   clear k13 K13
   refine ex_ h fun ot ip h => ?_
   refine W_seq_join [0, 4, 5, 6] [] (fun vals_ w2 => ∃ (bn : journal_Journal) (c7 : Option Addr) (c8 : Nat) (cl : List journal_record) (c9 : Option Addr) (da : Nat) (L H : Gh), vals_ = [] ∧ ot bn cl ∧ Inv [d0] G w L H w2 ∧ Le m9 L ∧ Le na H ∧ Tok H w2 dj 46 ([.slice c7 bn.book_.l_.length c8, .map (some d5), .pointer (some ⟨d0, 0, none⟩), vi bn.gen_, vi bn.place_]) ∧ bn.book_.l_.length ≤ c8 ∧ Sl H c7 bn.book_.l_ ∧ Tok H w2 j1 41 ([.slice c9 cl.length da]) ∧ cl.length ≤ da ∧ Sl H c9 cl ∧ Tok H w2 d0 53 ([.slice bw z0.files_.e0_.length bx, .slice bz z0.files_.e1_.length b4, .slice b5 z0.files_.e2_.length b6, vi z0.room_, .bool z0.off_, .bool z0.armed_, vi z0.left_]) ∧ MTok H H w2 d5 ([] : List (Int × Int)) ∧ Tok H w2 gt 26 ([.pointer (some ⟨dj, 0, none⟩)]) ∧ True) (fun B_ b_ => ?_) (fun B_ b_ => ?_)
   ·
    simp only [e_, Nat.reduceAdd, Nat.reduceBEq] at b_
    subst b_
    clear ip
    have a9 := Le.refl m9
    have ay := Le.refl na
    refine W_block ?_
    refine W_seq_k fun K17 k17 => ?_
    refine W_region [36, 37, 38, 35, 39, 40, 7, 8] rfl (Ops_step (R_move rfl) rfl rfl (Ops_step (R_move rfl) rfl rfl ?_))
    refine Ops_call (C_func bd44 rfl) rfl rfl ?_
    refine (disk_Disk_Read_ok (x1 := d8) (z0 := z0) hI.st (hg.up hI.le) ac ci ae cj af ck ag h).mono ?_
    rintro _ pp ⟨nb, nc, kq, kr, pq, pr, rfl, kt, b8, h⟩
    refine Exists.elim (hI.call kt (by simp)) fun pc j3 => ?_
    have nd := hI.size
    replace hI := j3.1
    have ct := j3.2.1
    have nf := j3.2.2
    clear j3
    replace ae := ae.up ct.hh
    replace af := af.up ct.hh
    replace ag := ag.up ct.hh
    replace a8 := a8.trans ct.ll
    replace ax := ax.trans ct.hh
    replace ac := ac.up ct (by simp)
    replace am := am.up ct.hh ct (by simp)
    replace ab := ab.up ct (by simp)
    replace aa := aa.up ct (by simp)
    replace aj := aj.up ct.hh
    replace ad := ad.up ct (by simp)
    replace ak := ak.up ct.hh
    replace ba := ba.trans ct.ll
    replace az := az.trans ct.hh
    replace a9 := a9.trans ct.ll
    replace ay := ay.trans ct.hh
    replace b8 := OwnS.backS b8 nd (Le.refl _)
    clear kt ct nf
    refine ⟨_, rfl, ?_⟩
    refine Exists.elim (b8.freeze hI) fun pt gv => Exists.elim gv fun pu gv => ?_
    replace hI := gv.1
    have cu := gv.2.1
    have ng := gv.2.2.1 (Le.no _)
    have nh := b8.cap
    replace ae := ae.up cu.hh
    replace af := af.up cu.hh
    replace ag := ag.up cu.hh
    replace a8 := a8.trans cu.ll
    replace ax := ax.trans cu.hh
    replace ac := ac.up cu (b8.old fh)
    replace am := am.up cu.hh cu (am.neO b8)
    replace ab := ab.up cu (ab.sep b8 (by decide))
    replace aa := aa.up cu (aa.sep b8 (by decide))
    replace aj := aj.up cu.hh
    replace ad := ad.up cu (ad.sep b8 (by decide))
    replace ak := ak.up cu.hh
    replace ba := ba.trans cu.ll
    replace az := az.trans cu.hh
    replace a9 := a9.trans cu.ll
    replace ay := ay.trans cu.hh
    clear gv cu b8
    refine Ops_step (R_move rfl) rfl rfl ?_
    refine Ops_step (R_extract (v := .slice nb kq.length nc) rfl rfl) rfl rfl ?_
    refine Ops_step (R_extract (v := vi kr) rfl rfl) rfl rfl ?_
    refine Ops_step (R_assign rfl) rfl rfl (Ops_step (R_assign rfl) rfl rfl ?_)
    refine Ops_nil ?_
    refine then_n (k17 _ _ ?_)
    clear k17 K17
    refine W_keepB [0, 4, 5, 6, 7, 8] fun B_ b_ => ?_
    simp only [e_, Nat.reduceAdd, Nat.reduceBEq] at b_
    subst b_
    refine W_seq_k fun K21 k21 => ?_
    refine W_seq_k fun K22 k22 => ?_
    refine W_region [41, 42] rfl (Ops_step (R_move rfl) rfl rfl (Ops_step (R_neq rfl rfl) rfl rfl ?_))
    refine Ops_nil ?_
    refine then_n (k22 _ _ ?_)
    clear k22 K22
    refine W_if rfl (fun iq => ?_) (fun iq => ?_)
    ·
     replace h := h.1 iq
     refine W_seq_k fun K24 k24 => ?_
     refine W_region [43, 2, 3] rfl (Ops_step (R_move rfl) rfl rfl (Ops_step (R_assign rfl) rfl rfl (Ops_step (R_assign rfl) rfl rfl ?_)))
     refine Ops_nil ?_
     refine then_n (k24 _ _ ?_)
     clear k24 K24
     refine W_keepB [2, 3] fun B_ b_ => ?_
     simp only [e_, Nat.reduceAdd, Nat.reduceBEq] at b_
     subst b_
     refine W_ret ?_
     refine then_ret ?_
     clear k21 K21
     refine block_ret ?_
     refine then_ret ?_
     refine then_ret ?_
     refine block_ret ?_
     refine then_ret ?_
     refine ⟨_, ⟨_, _, rfl, rfl, ⟨_, _, rfl, rfl, rfl⟩⟩, ?_⟩
     exact .inl ⟨kr, z0, bw, bx, bz, b4, b5, b6, _, _, rfl, hI, ac, ci, ae, cj, af, ck, ag, h⟩
    ·
     replace h := h.2 iq
     refine W_skip ?_
     refine then_n (k21 _ _ ?_)
     clear k21 K21
     refine W_seq_k fun K26 k26 => ?_
     refine W_region [45, 46, 44, 47, 48, 49, 50, 51, 9, 10, 11, 12, 13] rfl (Ops_step (R_move rfl) rfl rfl ?_)
     refine Ops_call (C_func bd45 rfl) rfl rfl ?_
     refine (journal_opened_ok (x0 := kq) hI.st (hg.up hI.le) nh (ng.up hI.sub) h).mono ?_
     rintro _ pv ⟨fx, ni, ir, it, iu, nj, nk, pw, pz, rfl, ku, b9, h⟩
     refine Exists.elim (hI.call ku (by simp)) fun pd j4 => ?_
     have nl := hI.size
     replace hI := j4.1
     have cv := j4.2.1
     have kv := j4.2.2
     clear j4
     replace ae := ae.up cv.hh
     replace af := af.up cv.hh
     replace ag := ag.up cv.hh
     replace a8 := a8.trans cv.ll
     replace ax := ax.trans cv.hh
     replace ac := ac.up cv (by simp)
     replace am := am.up cv.hh cv (by simp)
     replace ab := ab.up cv (by simp)
     replace aa := aa.up cv (by simp)
     replace aj := aj.up cv.hh
     replace ad := ad.up cv (by simp)
     replace ak := ak.up cv.hh
     replace ba := ba.trans cv.ll
     replace az := az.trans cv.hh
     replace a9 := a9.trans cv.ll
     replace ay := ay.trans cv.hh
     replace b9 := OwnS.back b9 nl kv (Le.refl _)
     clear ku cv kv
     refine ⟨_, rfl, ?_⟩
     refine Exists.elim (b9.freeze hI) fun nm gw => Exists.elim gw fun nn gw => ?_
     replace hI := gw.1
     have cw := gw.2.1
     have iv := gw.2.2.1 (Le.refl _)
     have np := b9.cap
     replace ae := ae.up cw.hh
     replace af := af.up cw.hh
     replace ag := ag.up cw.hh
     replace a8 := a8.trans cw.ll
     replace ax := ax.trans cw.hh
     replace ac := ac.up cw (b9.old fh)
     replace am := am.up cw.hh cw (am.neO b9)
     replace ab := ab.up cw (ab.sep b9 (by decide))
     replace aa := aa.up cw (aa.sep b9 (by decide))
     replace aj := aj.up cw.hh
     replace ad := ad.up cw (ad.sep b9 (by decide))
     replace ak := ak.up cw.hh
     replace ba := ba.trans cw.ll
     replace az := az.trans cw.hh
     replace a9 := a9.trans cw.ll
     replace ay := ay.trans cw.hh
     clear gw cw b9
     refine Ops_step (R_move rfl) rfl rfl ?_
     refine Ops_step (R_extract (v := vi fx) rfl rfl) rfl rfl ?_
     refine Ops_step (R_extract (v := vi ni) rfl rfl) rfl rfl ?_
     refine Ops_step (R_extract (v := .slice ir iu.length it) rfl rfl) rfl rfl ?_
     refine Ops_step (R_extract (v := .bool nj) rfl rfl) rfl rfl ?_
     refine Ops_step (R_extract (v := .bool nk) rfl rfl) rfl rfl ?_
     refine Ops_step (R_assign rfl) rfl rfl (Ops_step (R_assign rfl) rfl rfl (Ops_step (R_assign rfl) rfl rfl (Ops_step (R_assign rfl) rfl rfl (Ops_step (R_assign rfl) rfl rfl ?_))))
     refine Ops_nil ?_
     refine then_n (k26 _ _ ?_)
     clear k26 K26
     refine W_keepB [0, 4, 5, 6, 9, 10, 11, 12, 13] fun B_ b_ => ?_
     simp only [e_, Nat.reduceAdd, Nat.reduceBEq] at b_
     subst b_
     refine ex_ h fun ou iw h => ?_
     refine W_seq_join [0, 4, 5, 6, 9, 11] [69] (fun vals_ w2 => ∃ (fj : Bool) (L H : Gh), vals_ = [.bool fj] ∧ ou fj ∧ Inv [d0] G w L H w2 ∧ Le nm L ∧ Le nn H ∧ Tok H w2 d0 53 ([.slice bw z0.files_.e0_.length bx, .slice bz z0.files_.e1_.length b4, .slice b5 z0.files_.e2_.length b6, vi z0.room_, .bool z0.off_, .bool z0.armed_, vi z0.left_]) ∧ MTok H H w2 d5 ([] : List (Int × Int)) ∧ Tok H w2 gt 26 ([.pointer (some ⟨dj, 0, none⟩)]) ∧ Tok H w2 dj 46 ([.slice a5 al.book_.l_.length a6, .map (some d5), .pointer (some ⟨d0, 0, none⟩), vi al.gen_, vi al.place_]) ∧ Tok H w2 j1 41 ([.slice br bm.length bt]) ∧ True) (fun B_ b_ => ?_) (fun B_ b_ => ?_)
     ·
      simp only [e_, Nat.reduceAdd, Nat.reduceBEq] at b_
      subst b_
      clear iw
      have cm := Le.refl nm
      have be := Le.refl nn
      refine W_region [52, 53, 54, 55, 56, 57, 58, 59, 60, 61, 62, 63, 64, 65, 66, 67, 68, 69] rfl (Ops_step (R_move rfl) rfl rfl (Ops_step (R_move rfl) rfl rfl ?_))
      refine Ops_splitB 53 rfl (fun ix => ?_) (fun ix => ?_)
      ·
       replace h := h.1 ix
       refine Ops_step (R_move rfl) rfl rfl (Ops_step (R_pick_true rfl rfl) rfl rfl (Ops_step (R_move rfl) rfl rfl ?_))
       refine Ops_splitB 56 rfl (fun iy => ?_) (fun iy => ?_)
       ·
        replace h := h.1 iy
        refine Ops_step (R_move rfl) rfl rfl (Ops_step (R_move rfl) rfl rfl (Ops_step (R_len Try.underlying41 rfl rfl) rfl rfl (Ops_step (R_eql rfl rfl) rfl rfl (Ops_step (R_pick_true rfl rfl) rfl rfl ?_))))
        refine Ops_step (R_move rfl) rfl rfl ?_
        refine Ops_split 62 rfl (fun iz => ?_) (fun iz => ?_)
        ·
         replace h := h.1 iz
         refine Ops_step (R_move rfl) rfl rfl ?_
         refine Ops_step (R_loadB (v := .pointer (some ⟨dj, 0, none⟩)) ag26 rfl ab.blk rfl) rfl rfl ?_
         refine Ops_step (R_nilCheck rfl) rfl rfl (Ops_step (R_fieldAddr fo46_2 rfl) rfl rfl ?_)
         refine Ops_step (R_loadB (v := vi al.gen_) ag3 rfl aa.blk rfl) rfl rfl ?_
         refine Ops_step (R_gtr rfl rfl) rfl rfl (Ops_step (R_pick_true rfl rfl) rfl rfl ?_)
         refine Ops_nil ?_
         refine then_n ?_
         exact ⟨_, rfl, ⟨(decide (fx > al.gen_)), _, _, rfl, h, hI, cm, be, ac, am, ab, aa, ad, trivial⟩, ⟨rfl, rfl, rfl, rfl, rfl, rfl, trivial⟩⟩
        ·
         replace h := h.2 iz
         refine Ops_pass rfl rfl (Ops_pass rfl rfl (Ops_pass rfl rfl (Ops_pass rfl rfl (Ops_pass rfl rfl ?_))))
         refine Ops_pass rfl rfl (Ops_step (R_pick_false rfl rfl) rfl rfl ?_)
         refine Ops_nil ?_
         refine then_n ?_
         exact ⟨_, rfl, ⟨false, _, _, rfl, h, hI, cm, be, ac, am, ab, aa, ad, trivial⟩, ⟨rfl, rfl, rfl, rfl, rfl, rfl, trivial⟩⟩
       ·
        replace h := h.2 iy
        refine Ops_pass rfl rfl (Ops_pass rfl rfl (Ops_pass rfl rfl (Ops_pass rfl rfl (Ops_step (R_pick_false rfl rfl) rfl rfl ?_))))
        refine Ops_step (R_move rfl) rfl rfl (Ops_pass rfl rfl (Ops_pass rfl rfl (Ops_pass rfl rfl (Ops_pass rfl rfl ?_))))
        refine Ops_pass rfl rfl (Ops_pass rfl rfl (Ops_step (R_pick_false rfl rfl) rfl rfl ?_))
        refine Ops_nil ?_
        refine then_n ?_
        exact ⟨_, rfl, ⟨false, _, _, rfl, h, hI, cm, be, ac, am, ab, aa, ad, trivial⟩, ⟨rfl, rfl, rfl, rfl, rfl, rfl, trivial⟩⟩
      ·
       replace h := h.2 ix
       refine Ops_pass rfl rfl (Ops_step (R_pick_false rfl rfl) rfl rfl (Ops_step (R_move rfl) rfl rfl (Ops_pass rfl rfl (Ops_pass rfl rfl ?_))))
       refine Ops_pass rfl rfl (Ops_pass rfl rfl (Ops_step (R_pick_false rfl rfl) rfl rfl (Ops_step (R_move rfl) rfl rfl (Ops_pass rfl rfl ?_))))
       refine Ops_pass rfl rfl (Ops_pass rfl rfl (Ops_pass rfl rfl (Ops_pass rfl rfl (Ops_pass rfl rfl ?_))))
       refine Ops_step (R_pick_false rfl rfl) rfl rfl ?_
       refine Ops_nil ?_
       refine then_n ?_
       exact ⟨_, rfl, ⟨false, _, _, rfl, h, hI, cm, be, ac, am, ab, aa, ad, trivial⟩, ⟨rfl, rfl, rfl, rfl, rfl, rfl, trivial⟩⟩
     ·
      simp only [e_, Nat.reduceAdd, Nat.reduceBEq] at b_
      subst b_
      clear h
      clear am
      clear ab
      clear aa
      clear ad
      clear ac
      rintro _ p2 ⟨fj, p3, mn, rfl, kw, kx, cm, be, ac, am, ab, aa, ad, -⟩
      replace hI := kx
      clear kx
      have h := iw fj kw
      clear iw kw
      replace ae := ae.up be
      replace af := af.up be
      replace ag := ag.up be
      replace a8 := a8.trans cm
      replace ax := ax.trans be
      replace aj := aj.up be
      replace ak := ak.up be
      replace ba := ba.trans cm
      replace az := az.trans be
      replace a9 := a9.trans cm
      replace ay := ay.trans be
      replace iv := iv.up cm
      refine W_cond rfl (fun i0 => ?_) (fun i0 => ?_)
      ·
       replace h := h.1 i0
       refine W_drawF [70, 71, 72, 73, 74, 75, 76, none, 77, 78, none, none] [(0, true), (1, true), (2, true), (3, true), (4, true), (5, true), (6, true), (7, false), (8, true), (9, true), (10, false), (11, false)] TJtD.hm rfl (by kernel_rfl) fun ov p4 ee ei => ?_
       replace hI := hI.fr0 ei
       replace ac := ac.fr0 ei
       replace am := am.fr0 ei
       replace ab := ab.fr0 ei
       replace aa := aa.fr0 ei
       replace ad := ad.fr0 ei
       clear ei
       refine HS_loadB (v := .pointer (some ⟨dj, 0, none⟩)) ag26 rfl ab.blk rfl rfl rfl ?_
       refine HS_loadB (v := .pointer (some ⟨dj, 0, none⟩)) ag26 rfl ab.blk rfl rfl rfl ?_
       refine HSp (R_move rfl) rfl rfl (HSp (R_move rfl) rfl rfl (HSp (R_move rfl) rfl rfl (HSp (R_nilCheck rfl) rfl rfl (HSp (R_fieldAddr fo46_2 rfl) rfl rfl ?_))))
       refine HS_to0 [1] _ rfl (by rw [ee]; kernel_rfl) (R_store sz3 rfl rfl aa.blk (by show 3 < 5; decide) rfl) rfl ?_
       rintro _ p5 ⟨ky, ey⟩
       replace hI := hI.tok ey (out1 aa.out) (new1 cz)
       replace ac := ac.fr ey (ac.apart aa (by decide))
       replace am := am.fr ey (am.neT aa)
       replace ab := ab.fr ey (ab.apart aa (by decide))
       replace ad := ad.fr ey (ad.apart aa (by decide))
       replace aa : Tok mn _ dj 46 ([.slice a5 al.book_.l_.length a6, .map (some d5), .pointer (some ⟨d0, 0, none⟩), vi fx, vi al.place_]) := ⟨ky, aa.out⟩
       clear ey ky
       refine ⟨⟨(ab.blk.at_ rfl), trivial⟩, ?_⟩
       refine HSp (R_nilCheck rfl) rfl rfl (HSp (R_fieldAddr fo46_3 rfl) rfl rfl ?_)
       refine HS_to0 [] _ rfl (by rw [ee]; kernel_rfl) (R_store sz3 rfl rfl aa.blk (by show 4 < 5; decide) rfl) rfl ?_
       rintro _ p6 ⟨kz, ez⟩
       replace hI := hI.tok ez (out1 aa.out) (new1 cz)
       replace ac := ac.fr ez (ac.apart aa (by decide))
       replace am := am.fr ez (am.neT aa)
       replace ab := ab.fr ez (ab.apart aa (by decide))
       replace ad := ad.fr ez (ad.apart aa (by decide))
       replace aa : Tok mn _ dj 46 ([.slice a5 al.book_.l_.length a6, .map (some d5), .pointer (some ⟨d0, 0, none⟩), vi fx, vi d8]) := ⟨kz, aa.out⟩
       clear ez kz
       refine ⟨trivial, ?_⟩
       refine HS_to0 [] _ rfl (by rw [ee]; kernel_rfl) (R_store sz41 rfl rfl ad.blk (by show 0 < 1; decide) rfl) rfl ?_
       rintro _ p7 ⟨la, e5⟩
       replace hI := hI.tok e5 (out1 ad.out) (new1 j2)
       replace ac := ac.fr e5 (ac.apart ad (by decide))
       replace am := am.fr e5 (am.neT ad)
       replace ab := ab.fr e5 (ab.apart ad (by decide))
       replace aa := aa.fr e5 (aa.apart ad (by decide))
       replace ad : Tok mn _ j1 41 ([.slice ir iu.length it]) := ⟨la, ad.out⟩
       clear e5 la
       refine ⟨trivial, ?_⟩
       refine HS_nil ?_
       clear ee
       refine block_n ?_
       refine then_n ?_
       exact ⟨_, rfl, ⟨(journal_Journal.mk al.book_ fx d8), a5, a6, iu, ir, it, _, _, rfl, h, hI, a9, ay, aa, dk, aj, ad, np, (iv.up hI.sub), ac, am, ab, trivial⟩, ⟨rfl, rfl, rfl, rfl, trivial⟩⟩
      ·
       replace h := h.2 i0
       refine W_skip ?_
       refine block_n ?_
       refine then_n ?_
       exact ⟨_, rfl, ⟨al, a5, a6, bm, br, bt, _, _, rfl, h, hI, a9, ay, aa, dk, aj, ad, eh, ak, ac, am, ab, trivial⟩, ⟨rfl, rfl, rfl, rfl, trivial⟩⟩
   ·
    simp only [e_, Nat.reduceAdd, Nat.reduceBEq] at b_
    subst b_
    clear h
    clear am
    clear ab
    clear ac
    rintro _ p8 ⟨bn, c7, c8, cl, c9, da, p9, qa, rfl, lb, lc, a9, ay, i1, gc, gf, i2, gg, gh, ac, am, ab, -⟩
    replace hI := lc
    clear lc
    have h := ip bn cl lb
    clear ip lb
    replace ae := ae.up ay
    replace af := af.up ay
    replace ag := ag.up ay
    replace a8 := a8.trans a9
    replace ax := ax.trans ay
    replace ba := ba.trans a9
    replace az := az.trans ay
    refine W_region [33, 34, 6] rfl (Ops_step (R_move rfl) rfl rfl ?_)
    have ld := h.1
    replace h := h.2
    refine Ops_step (R_add rfl rfl (wI ld.1 ld.2)) rfl rfl (Ops_step (R_assign rfl) rfl rfl ?_)
    refine Ops_nil ?_
    refine then_n ?_
    exact h.elim fun m_ h => ⟨m_, _, h.1, rfl, ⟨(d8 + 1), bn, c7, c8, cl, c9, da, _, _, rfl, h.2, hI, ba, az, i1, gc, gf, i2, gg, gh, ac, am, ab, trivial⟩, ⟨rfl, rfl, rfl, trivial⟩⟩
  ·
   replace h := h.2 io
   refine W_exit ?_
   refine then_exit ?_
   clear k13 K13
   refine then_exit ?_
   refine block_exit ?_
   refine then_n ?_
   exact ⟨_, rfl, ⟨al, a5, a6, bm, br, bt, _, _, rfl, h, hI, a8, ax, aa, dk, aj, ad, eh, ak, ac, am, ab, trivial⟩, ⟨rfl, rfl, rfl, trivial⟩⟩
 ·
  simp only [e_, Nat.reduceAdd, Nat.reduceBEq] at b_
  subst b_
  clear h
  clear am
  clear ab
  clear ac
  rintro _ qb ⟨bl, c5, c6, bg, bp, bq, mo, mp, rfl, lf, lg, a8, ax, i3, gi, gj, ah, gk, ai, ac, am, ab, -⟩
  replace hI := lg
  clear lg
  have h := im bl bg lf
  clear im lf
  replace ae := ae.up ax
  replace af := af.up ax
  replace ag := ag.up ax
  refine ex_ h fun ow i4 h => ?_
  refine W_seq_join [0, 4, 5] [] (fun vals_ w2 => ∃ (bc : journal_Journal) (cd : Option Addr) (ce : Nat) (co : List (Int × Int)) (L H : Gh), vals_ = [] ∧ ow bc co ∧ Inv [d0] G w L H w2 ∧ Le mo L ∧ Le mp H ∧ Tok H w2 dj 46 ([.slice cd bc.book_.l_.length ce, .map (some d5), .pointer (some ⟨d0, 0, none⟩), vi bc.gen_, vi bc.place_]) ∧ bc.book_.l_.length ≤ ce ∧ Sl H cd bc.book_.l_ ∧ MTok H H w2 d5 co ∧ Tok H w2 d0 53 ([.slice bw z0.files_.e0_.length bx, .slice bz z0.files_.e1_.length b4, .slice b5 z0.files_.e2_.length b6, vi z0.room_, .bool z0.off_, .bool z0.armed_, vi z0.left_]) ∧ Tok H w2 gt 26 ([.pointer (some ⟨dj, 0, none⟩)]) ∧ Tok H w2 j1 41 ([.slice bp bg.length bq]) ∧ True) (fun B_ b_ => ?_) (fun B_ b_ => ?_)
  ·
   simp only [e_, Nat.reduceAdd, Nat.reduceBEq] at b_
   subst b_
   clear i4
   have d6 := Le.refl mo
   have ca := Le.refl mp
   refine W_seq_k fun K41 k41 => ?_
   refine W_region [79, 80, 81] rfl ?_
   refine Ops_step (R_loadB (v := .slice bp bg.length bq) ag41 rfl ah.blk rfl) rfl rfl ?_
   refine Ops_step (R_len Try.underlying41 rfl rfl) rfl rfl (Ops_step (R_move rfl) rfl rfl ?_)
   refine Ops_nil ?_
   refine then_n (k41 _ _ ?_)
   clear k41 K41
   refine W_block ?_
   refine Exists.elim h fun ox h => Exists.elim h fun oy h => ?_
   have kl := h.1
   have lh := h.2
   clear h
   refine W_loopB [0, 4, 5, 79, 80] [81] (fun m vals_ w2 => ∃ (ej : Int) (bh : journal_Journal) (db : Option Addr) (dc : Nat) (dd : List (Int × Int)) (L H : Gh), vals_ = [vi ej] ∧ ox m ej bh dd ∧ Inv [d0] G w L H w2 ∧ Le mo L ∧ Le mp H ∧ Tok H w2 dj 46 ([.slice db bh.book_.l_.length dc, .map (some d5), .pointer (some ⟨d0, 0, none⟩), vi bh.gen_, vi bh.place_]) ∧ bh.book_.l_.length ≤ dc ∧ Sl H db bh.book_.l_ ∧ MTok H H w2 d5 dd ∧ Tok H w2 d0 53 ([.slice bw z0.files_.e0_.length bx, .slice bz z0.files_.e1_.length b4, .slice b5 z0.files_.e2_.length b6, vi z0.room_, .bool z0.off_, .bool z0.armed_, vi z0.left_]) ∧ Tok H w2 gt 26 ([.pointer (some ⟨dj, 0, none⟩)]) ∧ Tok H w2 j1 41 ([.slice bp bg.length bq]) ∧ True) oy _ rfl ⟨0, bl, c5, c6, ([] : List (Int × Int)), _, _, rfl, kl, hI, Le.refl _, Le.refl _, i3, gi, gj, am, ac, ab, ah, trivial⟩ fun B_ b_ => ?_
   clear kl
   simp only [e_, Nat.reduceAdd, Nat.reduceBEq] at b_
   subst b_
   clear ab
   clear ah
   clear ac
   rintro oz _ qc ⟨ej, bh, db, dc, dd, qd, nq, rfl, li, lj, fk, cx, ao, ek, cp, ap, ac, ab, ah, -⟩
   replace hI := lj
   clear lj
   have h := lh oz ej bh dd li
   clear lh li
   replace ae := ae.up cx
   replace af := af.up cx
   replace ag := ag.up cx
   replace ai := ai.up cx
   replace d6 := d6.trans fk
   replace ca := ca.trans cx
   refine W_seq_k fun K43 k43 => ?_
   refine W_region [82] rfl (Ops_step (R_lss rfl rfl) rfl rfl ?_)
   refine Ops_nil ?_
   refine then_n (k43 _ _ ?_)
   clear k43 K43
   refine W_seq_k fun K44 k44 => ?_
   refine W_if rfl (fun i5 => ?_) (fun i5 => ?_)
   ·
    replace h := h.1 i5
    refine W_skip ?_
    refine then_n (k44 _ _ ?_)
    clear k44 K44
    refine W_seq_k fun K46 k46 => ?_
    refine W_block ?_
    refine W_seq_k fun K47 k47 => ?_
    refine W_region [83, 84, 15, none] rfl ?_
    refine ex_ h fun i6 gn h => ?_
    have nr := (Sl.atN (n := 2) rfl (by decide) ai gn).1
    refine Exists.elim (Sl.atN (n := 2) rfl (by decide) ai gn).2 fun qe i7 => ?_
    have ns := i7.1
    have nt := i7.2
    clear i7
    refine Ops_step (R_indexSl Try.underlying41 sz85 rfl rfl gn.1 gn.lt nr) rfl rfl ?_
    obtain ⟨i8, i9, rfl, ⟨mq, mr⟩⟩ := ns
    refine Ops_step (R_loadCs (cs := [vi i6.label_, .slice i8 i6.data_.length i9]) ag85 sz85 rfl (fun j_ v_ hv_ => hI.st _ _ (nt j_ v_ hv_))) rfl rfl ?_
    have bu := hI
    refine Ops_to (R_alloc zr85) rfl rfl ?_
    rintro _ qf ⟨ms, rfl, ja, lk, en⟩
    replace hI := hI.fr0 en
    replace ac := ac.fr0 en
    replace ab := ab.fr0 en
    replace ah := ah.fr0 en
    replace ao := ao.fr0 en
    replace ap := ap.fr0 en
    have bj : Tok nq _ ms 85 ([vi 0, .slice none 0 0]) := ⟨lk.to rfl, Out.ge bu.st (Nat.le_of_eq ja.symm)⟩
    have jb : w.heap.size ≤ ms := ja ▸ bu.size
    clear lk ja bu en
    refine Ops_to0 (R_storeN sz85 rfl rfl rfl bj.blk (Nat.le_of_ble_eq_true rfl) rfl) rfl ?_
    rintro _ qg ⟨lm, eo⟩
    replace hI := hI.tok eo (out1 bj.out) (new1 jb)
    replace ac := ac.fr eo (ac.apart bj (by decide))
    replace ab := ab.fr eo (ab.apart bj (by decide))
    replace ah := ah.fr eo (ah.apart bj (by decide))
    replace ao := ao.fr eo (ao.apart bj (by decide))
    replace ap := ap.fr eo (ap.neT bj)
    replace bj : Tok nq _ ms 85 ([vi i6.label_, .slice i8 i6.data_.length i9]) := ⟨lm, bj.out⟩
    clear eo lm
    refine Ops_nil ?_
    refine then_n (k47 _ _ ?_)
    clear k47 K47
    refine W_drawF [85, 86, 87, 88, 89] [(0, true), (1, true), (2, true), (3, true), (4, false)] TJtD.hm rfl (by kernel_rfl) fun o4 qh go d9 => ?_
    replace hI := hI.fr0 d9
    replace ac := ac.fr0 d9
    replace ab := ab.fr0 d9
    replace ah := ah.fr0 d9
    replace ao := ao.fr0 d9
    replace ap := ap.fr0 d9
    replace bj := bj.fr0 d9
    clear d9
    refine HS_loadB (v := .pointer (some ⟨dj, 0, none⟩)) ag26 rfl ab.blk rfl rfl rfl ?_
    refine HSp (R_nilCheck rfl) rfl rfl (HSp (R_fieldAddr fo46_0 rfl) rfl rfl ?_)
    refine HS_loadN ag85 sz85 rfl bj.blk (Nat.le_of_ble_eq_true rfl) rfl rfl ?_
    refine HS_call [] _ rfl (by rw [go]; kernel_rfl) (C_func bd43 rfl) rfl rfl ?_
    refine (journal_book_add_ok (x1 := i6) (z0 := bh) (z1 := dd) (z2 := z0) hI.st (hg.up hI.le) ap ac ci ae cj af ck ag ao ek cp ⟨i8, i9, rfl, ⟨mq, mr⟩⟩ h).mono ?_
    rintro _ qi ⟨mt, jc, jd, mu, qj, qk, rfl, ln, j5, gx, gy, j6, h⟩
    refine Exists.elim (hI.call ln (memG cz (memG fi memN))) fun pe j7 => ?_
    have pf := hI.size
    replace hI := j7.1
    have dr := j7.2.1
    have nu := j7.2.2
    clear j7
    replace ae := ae.up dr.hh
    replace af := af.up dr.hh
    replace ag := ag.up dr.hh
    replace ai := ai.up dr.hh
    replace d6 := d6.trans dr.ll
    replace ca := ca.trans dr.hh
    replace ac := ac.up dr (niA (ac.apart ao (by decide)) (niA (ac.neM ap) List.not_mem_nil))
    replace ab := ab.up dr (niA (ab.apart ao (by decide)) (niA (ab.neM ap) List.not_mem_nil))
    replace ah := ah.up dr (niA (ah.apart ao (by decide)) (niA (ah.neM ap) List.not_mem_nil))
    replace cp := cp.up dr.hh
    replace fk := fk.trans dr.ll
    replace cx := cx.trans dr.hh
    replace bj := bj.up dr (niA (bj.apart ao (by decide)) (niA (bj.neM ap) List.not_mem_nil))
    clear ao
    clear ap
    clear ln dr nu
    refine ⟨_, rfl, trivial, ?_⟩
    refine HS_nil ?_
    clear go
    refine block_n ?_
    refine then_n (k46 _ _ ?_)
    clear k46 K46
    refine W_keepB [0, 4, 5, 79, 80, 81] fun B_ b_ => ?_
    simp only [e_, Nat.reduceAdd, Nat.reduceBEq] at b_
    subst b_
    refine W_region [90, 81] rfl ?_
    have lp := h.1
    replace h := h.2
    refine Ops_step (R_add rfl rfl (wI lp.1 lp.2)) rfl rfl (Ops_step (R_move rfl) rfl rfl ?_)
    refine Ops_nil ?_
    refine then_n ?_
    exact h.elim fun m_ h => ⟨m_, _, h.1, rfl, ⟨(ej + 1), mt, jc, jd, mu, _, _, rfl, h.2, hI, fk, cx, j5, gx, gy, j6, ac, ab, ah, trivial⟩, ⟨rfl, rfl, rfl, rfl, rfl, trivial⟩⟩
   ·
    replace h := h.2 i5
    refine W_exit ?_
    refine then_exit ?_
    clear k44 K44
    refine then_exit ?_
    refine block_exit ?_
    refine then_n ?_
    exact ⟨_, rfl, ⟨bh, db, dc, dd, _, _, rfl, h, hI, d6, ca, ao, ek, cp, ap, ac, ab, ah, trivial⟩, ⟨rfl, rfl, rfl, trivial⟩⟩
  ·
   simp only [e_, Nat.reduceAdd, Nat.reduceBEq] at b_
   subst b_
   clear h
   clear ab
   clear ah
   clear ac
   rintro _ ql ⟨bc, cd, ce, co, qm, qn, rfl, lq, lr, d6, ca, ar, dl, an, au, ac, ab, ah, -⟩
   replace hI := lr
   clear lr
   have h := i4 bc co lq
   clear i4 lq
   replace ae := ae.up ca
   replace af := af.up ca
   replace ag := ag.up ca
   replace ai := ai.up ca
   refine W_seq_k fun K55 k55 => ?_
   refine W_region [92, 93, 91, 94, 95, 16, 17] rfl (Ops_step (R_move rfl) rfl rfl ?_)
   refine Ops_call (C_func bd44 rfl) rfl rfl ?_
   refine (disk_Disk_Read_ok (x1 := 0) (z0 := z0) hI.st (hg.up hI.le) ac ci ae cj af ck ag h).mono ?_
   rintro _ qo ⟨nv, nw, ls, lu, qp, qq, rfl, lv, cb, h⟩
   refine Exists.elim (hI.call lv (by simp)) fun pg j8 => ?_
   have nx := hI.size
   replace hI := j8.1
   have ea := j8.2.1
   have ny := j8.2.2
   clear j8
   replace ae := ae.up ea.hh
   replace af := af.up ea.hh
   replace ag := ag.up ea.hh
   replace ai := ai.up ea.hh
   replace ac := ac.up ea (by simp)
   replace ab := ab.up ea (by simp)
   replace ah := ah.up ea (by simp)
   replace ar := ar.up ea (by simp)
   replace an := an.up ea.hh
   replace au := au.up ea.hh ea (by simp)
   replace cb := OwnS.backS cb nx (Le.refl _)
   clear lv ea ny
   refine ⟨_, rfl, ?_⟩
   refine Exists.elim (cb.freeze hI) fun qr gz => Exists.elim gz fun qs gz => ?_
   replace hI := gz.1
   have eb := gz.2.1
   have nz := gz.2.2.1 (Le.no _)
   have n0 := cb.cap
   replace ae := ae.up eb.hh
   replace af := af.up eb.hh
   replace ag := ag.up eb.hh
   replace ai := ai.up eb.hh
   replace ac := ac.up eb (cb.old fh)
   replace ab := ab.up eb (ab.sep cb (by decide))
   replace ah := ah.up eb (ah.sep cb (by decide))
   replace ar := ar.up eb (ar.sep cb (by decide))
   replace an := an.up eb.hh
   replace au := au.up eb.hh eb (au.neO cb)
   clear gz eb cb
   refine Ops_step (R_move rfl) rfl rfl ?_
   refine Ops_step (R_extract (v := .slice nv ls.length nw) rfl rfl) rfl rfl ?_
   refine Ops_step (R_extract (v := vi lu) rfl rfl) rfl rfl ?_
   refine Ops_step (R_assign rfl) rfl rfl (Ops_step (R_assign rfl) rfl rfl ?_)
   refine Ops_nil ?_
   refine then_n (k55 _ _ ?_)
   clear k55 K55
   refine W_keepB [4, 5, 16, 17] fun B_ b_ => ?_
   simp only [e_, Nat.reduceAdd, Nat.reduceBEq] at b_
   subst b_
   refine W_seq_k fun K59 k59 => ?_
   refine W_seq_k fun K60 k60 => ?_
   refine W_region [96, 97] rfl (Ops_step (R_move rfl) rfl rfl (Ops_step (R_neq rfl rfl) rfl rfl ?_))
   refine Ops_nil ?_
   refine then_n (k60 _ _ ?_)
   clear k60 K60
   refine W_if rfl (fun je => ?_) (fun je => ?_)
   ·
    replace h := h.1 je
    refine W_seq_k fun K62 k62 => ?_
    refine W_region [98, 2, 3] rfl (Ops_step (R_move rfl) rfl rfl (Ops_step (R_assign rfl) rfl rfl (Ops_step (R_assign rfl) rfl rfl ?_)))
    refine Ops_nil ?_
    refine then_n (k62 _ _ ?_)
    clear k62 K62
    refine W_keepB [2, 3] fun B_ b_ => ?_
    simp only [e_, Nat.reduceAdd, Nat.reduceBEq] at b_
    subst b_
    refine W_ret ?_
    refine then_ret ?_
    clear k59 K59
    refine ⟨_, ⟨_, _, rfl, rfl, ⟨_, _, rfl, rfl, rfl⟩⟩, ?_⟩
    exact .inl ⟨lu, z0, bw, bx, bz, b4, b5, b6, _, _, rfl, hI, ac, ci, ae, cj, af, ck, ag, h⟩
   ·
    replace h := h.2 je
    refine W_skip ?_
    refine then_n (k59 _ _ ?_)
    clear k59 K59
    refine W_seq_k fun K64 k64 => ?_
    refine W_region [100, 101, 102, 99, 103, 104, 105, 106, 107, 18, 19, 20, 21, 22] rfl (Ops_step (R_move rfl) rfl rfl (Ops_step (R_makeFunc2 rfl rfl) rfl rfl ?_))
    refine Ops_call (C_func bd45 rfl) rfl rfl ?_
    refine (journal_opened_v1_ok (x0 := ls) (z0 := bg) (z1 := ()) (z2 := bc) (z3 := co) (z4 := z0) hI.st (hg.up hI.le) n0 (nz.up hI.sub) ah gk ai au ac ci ae cj af ck ag ar dl an ab h).mono ?_
    rintro _ qt ⟨n2, n3, n4, n5, n6, lw, n7, qu, qv, rfl, lx, cq, h⟩
    refine Exists.elim (hI.call lx (by simp)) fun ph j9 => ?_
    have n8 := hI.size
    replace hI := j9.1
    have ec := j9.2.1
    have ly := j9.2.2
    clear j9
    replace ae := ae.up ec.hh
    replace af := af.up ec.hh
    replace ag := ag.up ec.hh
    replace ai := ai.up ec.hh
    replace ac := ac.up ec (by simp)
    replace ab := ab.up ec (by simp)
    replace ah := ah.up ec (by simp)
    replace ar := ar.up ec (by simp)
    replace an := an.up ec.hh
    replace au := au.up ec.hh ec (by simp)
    replace cq := OwnS.back cq n8 ly (Le.refl _)
    clear lx ec ly
    refine ⟨_, rfl, ?_⟩
    refine Exists.elim (cq.freeze hI) fun mv g6 => Exists.elim g6 fun mw g6 => ?_
    replace hI := g6.1
    have ew := g6.2.1
    have e8 := g6.2.2.1 (Le.refl _)
    have pi := cq.cap
    replace ae := ae.up ew.hh
    replace af := af.up ew.hh
    replace ag := ag.up ew.hh
    replace ac := ac.up ew (cq.old fh)
    replace ab := ab.up ew (ab.sep cq (by decide))
    replace ar := ar.up ew (ar.sep cq (by decide))
    replace an := an.up ew.hh
    replace au := au.up ew.hh ew (au.neO cq)
    clear g6 ew cq
    refine Ops_step (R_move rfl) rfl rfl ?_
    refine Ops_step (R_extract (v := vi n2) rfl rfl) rfl rfl ?_
    refine Ops_step (R_extract (v := vi n3) rfl rfl) rfl rfl ?_
    refine Ops_step (R_extract (v := .slice n4 n6.length n5) rfl rfl) rfl rfl ?_
    refine Ops_step (R_extract (v := .bool lw) rfl rfl) rfl rfl ?_
    refine Ops_step (R_extract (v := .bool n7) rfl rfl) rfl rfl ?_
    refine Ops_step (R_assign rfl) rfl rfl (Ops_step (R_assign rfl) rfl rfl (Ops_step (R_assign rfl) rfl rfl (Ops_step (R_assign rfl) rfl rfl (Ops_step (R_assign rfl) rfl rfl ?_))))
    refine Ops_nil ?_
    refine then_n (k64 _ _ ?_)
    clear k64 K64
    refine W_keepB [4, 20, 21, 22] fun B_ b_ => ?_
    simp only [e_, Nat.reduceAdd, Nat.reduceBEq] at b_
    subst b_
    refine ex_ h fun o5 jf h => ?_
    refine W_seq_join [4, 21, 22] [] (fun vals_ w2 => ∃ (a7 : journal_Journal) (cf : Option Addr) (cg : Nat) (b7 : List (Int × Int)) (L H : Gh), vals_ = [] ∧ o5 a7 b7 ∧ Inv [d0] G w L H w2 ∧ Le mv L ∧ Le mw H ∧ Tok H w2 dj 46 ([.slice cf a7.book_.l_.length cg, .map (some d5), .pointer (some ⟨d0, 0, none⟩), vi a7.gen_, vi a7.place_]) ∧ a7.book_.l_.length ≤ cg ∧ Sl H cf a7.book_.l_ ∧ MTok H H w2 d5 b7 ∧ Tok H w2 d0 53 ([.slice bw z0.files_.e0_.length bx, .slice bz z0.files_.e1_.length b4, .slice b5 z0.files_.e2_.length b6, vi z0.room_, .bool z0.off_, .bool z0.armed_, vi z0.left_]) ∧ Tok H w2 gt 26 ([.pointer (some ⟨dj, 0, none⟩)]) ∧ True) (fun B_ b_ => ?_) (fun B_ b_ => ?_)
    ·
     simp only [e_, Nat.reduceAdd, Nat.reduceBEq] at b_
     subst b_
     clear jf
     have dm := Le.refl mv
     have cc := Le.refl mw
     refine W_seq_k fun K69 k69 => ?_
     refine W_region [108] rfl (Ops_step (R_move rfl) rfl rfl ?_)
     refine Ops_nil ?_
     refine then_n (k69 _ _ ?_)
     clear k69 K69
     refine W_cond rfl (fun jg => ?_) (fun jg => ?_)
     ·
      replace h := h.1 jg
      refine W_seq_k fun K71 k71 => ?_
      refine W_region [109, 110, 111] rfl (Ops_step (R_move rfl) rfl rfl (Ops_step (R_len Try.underlying41 rfl rfl) rfl rfl (Ops_step (R_move rfl) rfl rfl ?_)))
      refine Ops_nil ?_
      refine then_n (k71 _ _ ?_)
      clear k71 K71
      refine W_block ?_
      refine Exists.elim h fun o6 h => Exists.elim h fun o7 h => ?_
      have kl := h.1
      have lz := h.2
      clear h
      refine W_loopB [4, 21, 22, 109, 110] [111] (fun m vals_ w2 => ∃ (dt : Int) (bi : journal_Journal) (de : Option Addr) (df : Nat) (dg : List (Int × Int)) (L H : Gh), vals_ = [vi dt] ∧ o6 m dt bi dg ∧ Inv [d0] G w L H w2 ∧ Le mv L ∧ Le mw H ∧ Tok H w2 dj 46 ([.slice de bi.book_.l_.length df, .map (some d5), .pointer (some ⟨d0, 0, none⟩), vi bi.gen_, vi bi.place_]) ∧ bi.book_.l_.length ≤ df ∧ Sl H de bi.book_.l_ ∧ MTok H H w2 d5 dg ∧ Tok H w2 d0 53 ([.slice bw z0.files_.e0_.length bx, .slice bz z0.files_.e1_.length b4, .slice b5 z0.files_.e2_.length b6, vi z0.room_, .bool z0.off_, .bool z0.armed_, vi z0.left_]) ∧ Tok H w2 gt 26 ([.pointer (some ⟨dj, 0, none⟩)]) ∧ True) o7 _ rfl ⟨0, bc, cd, ce, co, _, _, rfl, kl, hI, Le.refl _, Le.refl _, ar, dl, an, au, ac, ab, trivial⟩ fun B_ b_ => ?_
      clear kl
      simp only [e_, Nat.reduceAdd, Nat.reduceBEq] at b_
      subst b_
      clear ab
      clear ac
      rintro o8 _ qw ⟨dt, bi, de, df, dg, qx, n9, rfl, l4, l5, ep, dn, av, eq, cr, aw, ac, ab, -⟩
      replace hI := l5
      clear l5
      have h := lz o8 dt bi dg l4
      clear lz l4
      replace ae := ae.up dn
      replace af := af.up dn
      replace ag := ag.up dn
      replace e8 := e8.up ep
      replace dm := dm.trans ep
      replace cc := cc.trans dn
      refine W_seq_k fun K73 k73 => ?_
      refine W_region [112] rfl (Ops_step (R_lss rfl rfl) rfl rfl ?_)
      refine Ops_nil ?_
      refine then_n (k73 _ _ ?_)
      clear k73 K73
      refine W_seq_k fun K74 k74 => ?_
      refine W_if rfl (fun jh => ?_) (fun jh => ?_)
      ·
       replace h := h.1 jh
       refine W_skip ?_
       refine then_n (k74 _ _ ?_)
       clear k74 K74
       refine W_seq_k fun K76 k76 => ?_
       refine W_block ?_
       refine W_seq_k fun K77 k77 => ?_
       refine W_region [113, 114, 24, none] rfl ?_
       refine ex_ h fun ji gp h => ?_
       have oa := (Sl.atN (n := 2) rfl (by decide) (e8.up hI.sub) gp).1
       refine Exists.elim (Sl.atN (n := 2) rfl (by decide) (e8.up hI.sub) gp).2 fun qy jj => ?_
       have ob := jj.1
       have oc := jj.2
       clear jj
       refine Ops_step (R_indexSl Try.underlying41 sz85 rfl rfl gp.1 gp.lt oa) rfl rfl ?_
       obtain ⟨jk, jl, rfl, ⟨my, mz⟩⟩ := ob
       refine Ops_step (R_loadCs (cs := [vi ji.label_, .slice jk ji.data_.length jl]) ag85 sz85 rfl (fun j_ v_ hv_ => hI.st _ _ (oc j_ v_ hv_))) rfl rfl ?_
       have bu := hI
       refine Ops_to (R_alloc zr85) rfl rfl ?_
       rintro _ qz ⟨m0, rfl, jm, l6, e9⟩
       replace hI := hI.fr0 e9
       replace ac := ac.fr0 e9
       replace ab := ab.fr0 e9
       replace av := av.fr0 e9
       replace aw := aw.fr0 e9
       have bv : Tok n9 _ m0 85 ([vi 0, .slice none 0 0]) := ⟨l6.to rfl, Out.ge bu.st (Nat.le_of_eq jm.symm)⟩
       have jn : w.heap.size ≤ m0 := jm ▸ bu.size
       clear l6 jm bu e9
       refine Ops_to0 (R_storeN sz85 rfl rfl rfl bv.blk (Nat.le_of_ble_eq_true rfl) rfl) rfl ?_
       rintro _ q5 ⟨l7, fa⟩
       replace hI := hI.tok fa (out1 bv.out) (new1 jn)
       replace ac := ac.fr fa (ac.apart bv (by decide))
       replace ab := ab.fr fa (ab.apart bv (by decide))
       replace av := av.fr fa (av.apart bv (by decide))
       replace aw := aw.fr fa (aw.neT bv)
       replace bv : Tok n9 _ m0 85 ([vi ji.label_, .slice jk ji.data_.length jl]) := ⟨l7, bv.out⟩
       clear fa l7
       refine Ops_nil ?_
       refine then_n (k77 _ _ ?_)
       clear k77 K77
       refine W_drawF [115, 116, 117, 118, 119] [(0, true), (1, true), (2, true), (3, true), (4, false)] TJtD.hm rfl (by kernel_rfl) fun o9 q6 gq et => ?_
       replace hI := hI.fr0 et
       replace ac := ac.fr0 et
       replace ab := ab.fr0 et
       replace av := av.fr0 et
       replace aw := aw.fr0 et
       replace bv := bv.fr0 et
       clear et
       refine HS_loadB (v := .pointer (some ⟨dj, 0, none⟩)) ag26 rfl ab.blk rfl rfl rfl ?_
       refine HSp (R_nilCheck rfl) rfl rfl (HSp (R_fieldAddr fo46_0 rfl) rfl rfl ?_)
       refine HS_loadN ag85 sz85 rfl bv.blk (Nat.le_of_ble_eq_true rfl) rfl rfl ?_
       refine HS_call [] _ rfl (by rw [gq]; kernel_rfl) (C_func bd43 rfl) rfl rfl ?_
       refine (journal_book_add_ok (x1 := ji) (z0 := bi) (z1 := dg) (z2 := z0) hI.st (hg.up hI.le) aw ac ci ae cj af ck ag av eq cr ⟨jk, jl, rfl, ⟨my, mz⟩⟩ h).mono ?_
       rintro _ q7 ⟨m1, jo, jp, m2, q8, q9, rfl, l8, ka, g7, g8, kb, h⟩
       refine Exists.elim (hI.call l8 (memG cz (memG fi memN))) fun pj kc => ?_
       have pk := hI.size
       replace hI := kc.1
       have d7 := kc.2.1
       have od := kc.2.2
       clear kc
       replace ae := ae.up d7.hh
       replace af := af.up d7.hh
       replace ag := ag.up d7.hh
       replace e8 := e8.up d7.ll
       replace dm := dm.trans d7.ll
       replace cc := cc.trans d7.hh
       replace ac := ac.up d7 (niA (ac.apart av (by decide)) (niA (ac.neM aw) List.not_mem_nil))
       replace ab := ab.up d7 (niA (ab.apart av (by decide)) (niA (ab.neM aw) List.not_mem_nil))
       replace cr := cr.up d7.hh
       replace ep := ep.trans d7.ll
       replace dn := dn.trans d7.hh
       replace bv := bv.up d7 (niA (bv.apart av (by decide)) (niA (bv.neM aw) List.not_mem_nil))
       clear av
       clear aw
       clear l8 d7 od
       refine ⟨_, rfl, trivial, ?_⟩
       refine HS_nil ?_
       clear gq
       refine block_n ?_
       refine then_n (k76 _ _ ?_)
       clear k76 K76
       refine W_keepB [4, 21, 22, 109, 110, 111] fun B_ b_ => ?_
       simp only [e_, Nat.reduceAdd, Nat.reduceBEq] at b_
       subst b_
       refine W_region [120, 111] rfl ?_
       have l9 := h.1
       replace h := h.2
       refine Ops_step (R_add rfl rfl (wI l9.1 l9.2)) rfl rfl (Ops_step (R_move rfl) rfl rfl ?_)
       refine Ops_nil ?_
       refine then_n ?_
       exact h.elim fun m_ h => ⟨m_, _, h.1, rfl, ⟨(dt + 1), m1, jo, jp, m2, _, _, rfl, h.2, hI, ep, dn, ka, g7, g8, kb, ac, ab, trivial⟩, ⟨rfl, rfl, rfl, rfl, rfl, trivial⟩⟩
      ·
       replace h := h.2 jh
       refine W_exit ?_
       refine then_exit ?_
       clear k74 K74
       refine then_exit ?_
       refine block_exit ?_
       refine then_n ?_
       exact ⟨_, rfl, ⟨bi, de, df, dg, _, _, rfl, h, hI, dm, cc, av, eq, cr, aw, ac, ab, trivial⟩, ⟨rfl, rfl, rfl, trivial⟩⟩
     ·
      replace h := h.2 jg
      refine W_skip ?_
      refine then_n ?_
      exact ⟨_, rfl, ⟨bc, cd, ce, co, _, _, rfl, h, hI, dm, cc, ar, dl, an, au, ac, ab, trivial⟩, ⟨rfl, rfl, rfl, trivial⟩⟩
    ·
     simp only [e_, Nat.reduceAdd, Nat.reduceBEq] at b_
     subst b_
     clear h
     clear ab
     clear ac
     rintro _ ra ⟨a7, cf, cg, b7, ke, kf, rfl, ma, mb, dm, cc, bd, eu, bf, aq, ac, ab, -⟩
     replace hI := mb
     clear mb
     have h := jf a7 b7 ma
     clear jf ma
     replace ae := ae.up cc
     replace af := af.up cc
     replace ag := ag.up cc
     refine ex_ h fun pa jq h => ?_
     refine W_seq_join [4] [] (fun vals_ w2 => ∃ (a4 : disk_Disk) (du : Option Addr) (dv : Nat) (dw : Option Addr) (dx : Nat) (dy : Option Addr) (dz : Nat) (bo : journal_Journal) (dh : Option Addr) (di : Nat) (L H : Gh), vals_ = [] ∧ pa a4 bo ∧ Inv [d0] G w L H w2 ∧ Le ke L ∧ Le kf H ∧ Tok H w2 d0 53 ([.slice du a4.files_.e0_.length dv, .slice dw a4.files_.e1_.length dx, .slice dy a4.files_.e2_.length dz, vi a4.room_, .bool a4.off_, .bool a4.armed_, vi a4.left_]) ∧ a4.files_.e0_.length ≤ dv ∧ Sl H du a4.files_.e0_ ∧ a4.files_.e1_.length ≤ dx ∧ Sl H dw a4.files_.e1_ ∧ a4.files_.e2_.length ≤ dz ∧ Sl H dy a4.files_.e2_ ∧ Tok H w2 dj 46 ([.slice dh bo.book_.l_.length di, .map (some d5), .pointer (some ⟨d0, 0, none⟩), vi bo.gen_, vi bo.place_]) ∧ bo.book_.l_.length ≤ di ∧ Sl H dh bo.book_.l_ ∧ Tok H w2 gt 26 ([.pointer (some ⟨dj, 0, none⟩)]) ∧ MTok H H w2 d5 b7 ∧ True) (fun B_ b_ => ?_) (fun B_ b_ => ?_)
     ·
      simp only [e_, Nat.reduceAdd, Nat.reduceBEq] at b_
      subst b_
      clear jq
      have dp := Le.refl ke
      have dq := Le.refl kf
      refine ex_ h fun pb jr h => ?_
      refine W_seq_join [4] [126] (fun vals_ w2 => ∃ (eg : Bool) (L H : Gh), vals_ = [.bool eg] ∧ pb eg ∧ Inv [d0] G w L H w2 ∧ Le ke L ∧ Le kf H ∧ Tok H w2 d0 53 ([.slice bw z0.files_.e0_.length bx, .slice bz z0.files_.e1_.length b4, .slice b5 z0.files_.e2_.length b6, vi z0.room_, .bool z0.off_, .bool z0.armed_, vi z0.left_]) ∧ Tok H w2 gt 26 ([.pointer (some ⟨dj, 0, none⟩)]) ∧ Tok H w2 dj 46 ([.slice cf a7.book_.l_.length cg, .map (some d5), .pointer (some ⟨d0, 0, none⟩), vi a7.gen_, vi a7.place_]) ∧ MTok H H w2 d5 b7 ∧ True) (fun B_ b_ => ?_) (fun B_ b_ => ?_)
      ·
       simp only [e_, Nat.reduceAdd, Nat.reduceBEq] at b_
       subst b_
       clear jr
       have fm := Le.refl ke
       have cy := Le.refl kf
       refine W_region [121, 122, 123, 124, 125, 126] rfl (Ops_step (R_move rfl) rfl rfl (Ops_step (R_not rfl) rfl rfl (Ops_step (R_move rfl) rfl rfl ?_)))
       refine Ops_splitB 123 rfl (fun js => ?_) (fun js => ?_)
       ·
        replace h := h.1 js
        refine Ops_pass rfl rfl (Ops_pass rfl rfl (Ops_step (R_pick_true rfl rfl) rfl rfl ?_))
        refine Ops_nil ?_
        refine then_n ?_
        exact ⟨_, rfl, ⟨true, _, _, rfl, h, hI, fm, cy, ac, ab, bd, aq, trivial⟩, ⟨rfl, trivial⟩⟩
       ·
        replace h := h.2 js
        refine Ops_step (R_move rfl) rfl rfl (Ops_step (R_not rfl) rfl rfl (Ops_step (R_pick_false rfl rfl) rfl rfl ?_))
        refine Ops_nil ?_
        refine then_n ?_
        exact ⟨_, rfl, ⟨(!lw), _, _, rfl, h, hI, fm, cy, ac, ab, bd, aq, trivial⟩, ⟨rfl, trivial⟩⟩
      ·
       simp only [e_, Nat.reduceAdd, Nat.reduceBEq] at b_
       subst b_
       clear h
       clear ab
       clear bd
       clear ac
       clear aq
       rintro _ rb ⟨eg, rc, re, rfl, mc, md, fm, cy, ac, ab, bd, aq, -⟩
       replace hI := md
       clear md
       have h := jr eg mc
       clear jr mc
       replace ae := ae.up cy
       replace af := af.up cy
       replace ag := ag.up cy
       replace bf := bf.up cy
       replace dp := dp.trans fm
       replace dq := dq.trans cy
       refine W_cond rfl (fun jt => ?_) (fun jt => ?_)
       ·
        replace h := h.1 jt
        refine W_seq_k fun K89 k89 => ?_
        refine W_region [127, 128, 25] rfl ?_
        refine Ops_step (R_loadB (v := .pointer (some ⟨dj, 0, none⟩)) ag26 rfl ab.blk rfl) rfl rfl ?_
        refine Ops_call (C_func bd14 rfl) rfl rfl ?_
        refine (journal_Journal_Check_ok (z0 := a7) (z1 := b7) (z2 := z0) hI.st (hg.up hI.le) aq ac ci ae cj af ck ag bd eu bf h).mono ?_
        rintro _ rf ⟨oe, m3, ju, jv, jw, fy, f0, f8, f9, ga, gb, rg, rh, rfl, me, kg, g9, ia, gr, fb, fc, fd, fe, ff, fg, h⟩
        refine Exists.elim (hI.call me (memG cz (memO (by simp) memN))) fun pm kh => ?_
        have pn := hI.size
        replace hI := kh.1
        have ex := kh.2.1
        have og := kh.2.2
        clear kh
        replace ae := ae.up ex.hh
        replace af := af.up ex.hh
        replace ag := ag.up ex.hh
        replace bf := bf.up ex.hh
        replace dp := dp.trans ex.ll
        replace dq := dq.trans ex.hh
        replace ab := ab.up ex (niA (ab.apart bd (by decide)) (niA (ab.apart ac (by decide)) List.not_mem_nil))
        replace aq := aq.up ex.hh ex (niA (aq.neT bd) (niA (aq.neT ac) List.not_mem_nil))
        clear bd
        clear ac
        clear me ex og
        refine ⟨_, rfl, ?_⟩
        refine Ops_step (R_assign rfl) rfl rfl ?_
        refine Ops_nil ?_
        refine then_n (k89 _ _ ?_)
        clear k89 K89
        refine W_seq_k fun K91 k91 => ?_
        refine W_region [129, 130] rfl (Ops_step (R_move rfl) rfl rfl (Ops_step (R_neq rfl rfl) rfl rfl ?_))
        refine Ops_nil ?_
        refine then_n (k91 _ _ ?_)
        clear k91 K91
        refine W_if rfl (fun jx => ?_) (fun jx => ?_)
        ·
         replace h := h.1 jx
         refine W_seq_k fun K93 k93 => ?_
         refine W_region [131, 2, 3] rfl (Ops_step (R_move rfl) rfl rfl (Ops_step (R_assign rfl) rfl rfl (Ops_step (R_assign rfl) rfl rfl ?_)))
         refine Ops_nil ?_
         refine then_n (k93 _ _ ?_)
         clear k93 K93
         refine W_keepB [2, 3] fun B_ b_ => ?_
         simp only [e_, Nat.reduceAdd, Nat.reduceBEq] at b_
         subst b_
         refine W_ret ?_
         refine then_ret ?_
         refine ⟨_, ⟨_, _, rfl, rfl, ⟨_, _, rfl, rfl, rfl⟩⟩, ?_⟩
         exact .inl ⟨oe, jw, fy, f0, f8, f9, ga, gb, _, _, rfl, hI, gr, fb, fc, fd, fe, ff, fg, h⟩
        ·
         replace h := h.2 jx
         refine W_skip ?_
         refine then_n ?_
         exact ⟨_, rfl, ⟨jw, fy, f0, f8, f9, ga, gb, m3, ju, jv, _, _, rfl, h, hI, dp, dq, gr, fb, fc, fd, fe, ff, fg, kg, g9, ia, ab, aq, trivial⟩, ⟨rfl, trivial⟩⟩
       ·
        replace h := h.2 jt
        refine W_skip ?_
        refine then_n ?_
        exact ⟨_, rfl, ⟨z0, bw, bx, bz, b4, b5, b6, a7, cf, cg, _, _, rfl, h, hI, dp, dq, ac, ci, ae, cj, af, ck, ag, bd, eu, bf, ab, aq, trivial⟩, ⟨rfl, trivial⟩⟩
     ·
      simp only [e_, Nat.reduceAdd, Nat.reduceBEq] at b_
      subst b_
      clear h
      clear ab
      clear aq
      rintro _ ri ⟨a4, du, dv, dw, dx, dy, dz, bo, dh, di, rj, rk, rfl, mf, mg, dp, dq, ki, ib, ic, ie, ig, ii, ij, jy, gl, gm, ab, aq, -⟩
      replace hI := mg
      clear mg
      have h := jq a4 bo mf
      clear jq mf
      refine W_seq_k fun K95 k95 => ?_
      refine W_region [132, 2, 3] rfl ?_
      refine Ops_step (R_loadB (v := .pointer (some ⟨dj, 0, none⟩)) ag26 rfl ab.blk rfl) rfl rfl ?_
      refine Ops_step (R_assign rfl) rfl rfl (Ops_step (R_assign rfl) rfl rfl ?_)
      refine Ops_nil ?_
      refine then_n (k95 _ _ ?_)
      clear k95 K95
      refine W_ret ?_
      refine ⟨_, ⟨_, _, rfl, rfl, ⟨_, _, rfl, rfl, rfl⟩⟩, ?_⟩
      exact .inr ⟨0, a4, du, dv, dw, dx, dy, dz, dj, bo, dh, di, d5, b7, _, _, rfl, hI, ki, ib, ic, ie, ig, ii, ij, cz, jy, gl, gm, fi, aq, h⟩

end Go.Proofs.Ytkmljjhjojolcaa

