/- What is shown of the program on the way to the law. -/
import Derived.Test.YtkmljjhjojolcaaZp3
import Derived.Test.YtkmljjhjojolcaaZp4
import Derived.Test.YtkmljjhjojolcaaZp5
import Derived.Test.YtkmljjhjojolcaaZp10
import Derived.Test.YtkmljjhjojolcaaZp11
import Derived.Test.YtkmljjhjojolcaaZp12
import Derived.Test.YtkmljjhjojolcaaZp13
import Derived.Test.YtkmljjhjojolcaaZp14
import Derived.Test.YtkmljjhjojolcaaProg
set_option linter.unusedVariables false
set_option linter.unusedSimpArgs false
set_option maxHeartbeats 4000000
namespace Go.Proofs.Ytkmljjhjojolcaa
open Go Go.Sx Go.Lx
namespace TJtJ
theorem hm : Try.prog.follows .mixedOrders = true := by kernel_rfl
theorem ag25 : aggB Try.prog 25 = some false := by kernel_rfl
theorem ag29 : aggB Try.prog 29 = some false := by kernel_rfl
theorem ag3 : aggB Try.prog 3 = some false := by kernel_rfl
theorem ag36 : aggB Try.prog 36 = some false := by kernel_rfl
theorem ag41 : aggB Try.prog 41 = some false := by kernel_rfl
theorem ag42 : aggB Try.prog 42 = some false := by kernel_rfl
theorem ag85 : aggB Try.prog 85 = some true := by kernel_rfl
theorem bd32 : bodied Try.prog 32 = true := by kernel_rfl
theorem bd33 : bodied Try.prog 33 = true := by kernel_rfl
theorem bd39 : bodied Try.prog 39 = true := by kernel_rfl
theorem bd44 : bodied Try.prog 44 = true := by kernel_rfl
theorem bd48 : bodied Try.prog 48 = true := by kernel_rfl
theorem bd55 : bodied Try.prog 55 = true := by kernel_rfl
theorem bd56 : bodied Try.prog 56 = true := by kernel_rfl
theorem bd57 : bodied Try.prog 57 = true := by kernel_rfl
theorem bd58 : bodied Try.prog 58 = true := by kernel_rfl
theorem bd59 : bodied Try.prog 59 = true := by kernel_rfl
theorem el36 : Elem Try.prog 36 39 2 24 := Elem.of (by kernel_rfl)
theorem el41 : Elem Try.prog 41 85 2 32 := Elem.of (by kernel_rfl)
theorem fo44_0 : offB Try.prog 44 0 = some 0 := by kernel_rfl
theorem fo44_1 : offB Try.prog 44 1 = some 1 := by kernel_rfl
theorem fo46_0 : offB Try.prog 46 0 = some 0 := by kernel_rfl
theorem fo46_1 : offB Try.prog 46 1 = some 2 := by kernel_rfl
theorem fo73_0 : offB Try.prog 73 0 = some 0 := by kernel_rfl
theorem fo73_2 : offB Try.prog 73 2 = some 2 := by kernel_rfl
theorem fo73_3 : offB Try.prog 73 3 = some 3 := by kernel_rfl
theorem fo85_0 : offB Try.prog 85 0 = some 0 := by kernel_rfl
theorem fo85_1 : offB Try.prog 85 1 = some 1 := by kernel_rfl
theorem pl73 : partPl Try.prog 73 = some [(0, 1), (1, 1), (2, 1), (3, 1)] := by kernel_rfl
theorem sz29 : sz Try.prog 29 = some 1 := by kernel_rfl
theorem sz3 : sz Try.prog 3 = some 1 := by kernel_rfl
theorem sz36 : sz Try.prog 36 = some 1 := by kernel_rfl
theorem sz41 : sz Try.prog 41 = some 1 := by kernel_rfl
theorem sz85 : sz Try.prog 85 = some 2 := by kernel_rfl
theorem zr73 : zr Try.prog 73 = some ([.slice none 0 0] ++ [.pointer none] ++ [.int .i64 0] ++ [.int .i64 0]) := by kernel_rfl
theorem zr85 : zr Try.prog 85 = some ([.int .i64 0] ++ [.slice none 0 0]) := by kernel_rfl
end TJtJ
open TJtJ
theorem sealskinref06_Open_ok {G : Gh} {w : World} (hS : St G w) (hg : GL G) {d0 : Nat} {z0 : sealskinref05_Disk} {ba : Option Addr} {bc : Nat} {bd : Option Addr} {be : Nat} {bf : Option Addr} {bg : Nat} (af : Tok G w d0 81 ([.slice ba z0.F_.e0_.length bc, .slice bd z0.F_.e1_.length be, .slice bf z0.F_.e2_.length bg, vi z0.Room_, .bool z0.Off_, vi z0.Fuse_])) (cj : z0.F_.e0_.length ≤ bc) (ac : Sl G ba z0.F_.e0_) (ck : z0.F_.e1_.length ≤ be) (ad : Sl G bd z0.F_.e1_) (cl : z0.F_.e2_.length ≤ bg) (ae : Sl G bf z0.F_.e2_) {Q0 : Int → sealskinref05_Disk → Prop} {Q1 : Int → sealskinref05_Disk → sealskinref06_Journal → Prop} (h : sealskinref06_Open z0 Q0 Q1) : Calls Try.prog 28 #[.pointer (some ⟨d0, 0, none⟩)] w fun e w2 => (∃ (r1 : Int) (y0 : sealskinref05_Disk) (dl : Option Addr) (dm : Nat) (dn : Option Addr) (dp : Nat) (dq : Option Addr) (dr : Nat) (L H : Gh), e = .returned (.tuple #[.pointer none, vi r1]) ∧ Inv [d0] G w L H w2 ∧ Tok H w2 d0 81 ([.slice dl y0.F_.e0_.length dm, .slice dn y0.F_.e1_.length dp, .slice dq y0.F_.e2_.length dr, vi y0.Room_, .bool y0.Off_, vi y0.Fuse_]) ∧ y0.F_.e0_.length ≤ dm ∧ Sl H dl y0.F_.e0_ ∧ y0.F_.e1_.length ≤ dp ∧ Sl H dn y0.F_.e1_ ∧ y0.F_.e2_.length ≤ dr ∧ Sl H dq y0.F_.e2_ ∧ Q0 r1 y0) ∨ (∃ (r1 : Int) (y0 : sealskinref05_Disk) (dl : Option Addr) (dm : Nat) (dn : Option Addr) (dp : Nat) (dq : Option Addr) (dr : Nat) (o1 : Nat) (y1 : sealskinref06_Journal) (ib : Option Addr) (ic : Nat) (L H : Gh), e = .returned (.tuple #[.pointer (some ⟨o1, 0, none⟩), vi r1]) ∧ Inv [d0] G w L H w2 ∧ Tok H w2 d0 81 ([.slice dl y0.F_.e0_.length dm, .slice dn y0.F_.e1_.length dp, .slice dq y0.F_.e2_.length dr, vi y0.Room_, .bool y0.Off_, vi y0.Fuse_]) ∧ y0.F_.e0_.length ≤ dm ∧ Sl H dl y0.F_.e0_ ∧ y0.F_.e1_.length ≤ dp ∧ Sl H dn y0.F_.e1_ ∧ y0.F_.e2_.length ≤ dr ∧ Sl H dq y0.F_.e2_ ∧ w.heap.size ≤ o1 ∧ Tok H w2 o1 73 ([.slice ib y1.L_.length ic, .pointer (some ⟨d0, 0, none⟩), vi y1.Gen_, vi y1.File_]) ∧ y1.L_.length ≤ ic ∧ Sl H ib y1.L_ ∧ Q1 r1 y0 y1) := by
 unfold sealskinref06_Open at h
 have hI := Inv.start (M := [d0]) hS
 refine calls_W 159 Try.func28 rfl Try.ntmps28 rfl [.tmp 2, .tmp 3] rfl ?_
 have bv := af.blk.lt
 refine W_seq_k fun K1 k1 => ?_
 refine W_region [2, 3] rfl (Ops_step (R_assign rfl) rfl rfl (Ops_step (R_assign rfl) rfl rfl ?_))
 refine Ops_nil ?_
 refine then_n (k1 _ _ ?_)
 clear k1 K1
 refine W_seq_k fun K2 k2 => ?_
 refine W_region [22, 23, 24, 4] rfl (Ops_step (R_move rfl) rfl rfl ?_)
 refine Ops_step (R_build (pl := [(1, 1)]) (cs := [.slice none 0 0, .pointer (some ⟨d0, 0, none⟩), vi 0, vi 0]) zr73 pl73 rfl rfl rfl) rfl rfl ?_
 have js := hI
 refine Ops_to (R_box rfl) rfl rfl ?_
 rintro _ ow ⟨d8, rfl, jt, j3, ju⟩
 replace hI := hI.fr0 ju
 replace af := af.fr0 ju
 have lu : Tok G _ d8 73 ([.slice none 0 0, .pointer (some ⟨d0, 0, none⟩), vi 0, vi 0]) := ⟨j3.to rfl, Out.ge js.st (Nat.le_of_eq jt.symm)⟩
 have bl : w.heap.size ≤ d8 := jt ▸ js.size
 clear j3 jt js ju
 refine Ops_step (R_assign rfl) rfl rfl ?_
 refine Ops_nil ?_
 refine then_n (k2 _ _ ?_)
 clear k2 K2
 refine ex_ h fun mt jv h => ?_
 refine W_seq_join [0, 4] [] (fun vals_ w2 => ∃ (ai : sealskinref06_Journal) (az : Option Addr) (a4 : Nat) (L H : Gh), vals_ = [] ∧ mt ai ∧ Inv [d0] G w L H w2 ∧ Le Gh.no L ∧ Le G H ∧ Tok H w2 d8 73 ([.slice az ai.L_.length a4, .pointer (some ⟨d0, 0, none⟩), vi ai.Gen_, vi ai.File_]) ∧ ai.L_.length ≤ a4 ∧ Sl H az ai.L_ ∧ Tok H w2 d0 81 ([.slice ba z0.F_.e0_.length bc, .slice bd z0.F_.e1_.length be, .slice bf z0.F_.e2_.length bg, vi z0.Room_, .bool z0.Off_, vi z0.Fuse_]) ∧ True) (fun B_ b_ => ?_) (fun B_ b_ => ?_)
 ·
  simp only [e_, Nat.reduceAdd, Nat.reduceBEq] at b_
  subst b_
  clear jv
  have ao := Le.refl Gh.no
  have am := Le.refl G
  refine W_seq_k fun K5 k5 => ?_
  refine W_region [5] rfl (Ops_step (R_assign rfl) rfl rfl ?_)
  refine Ops_nil ?_
  refine then_n (k5 _ _ ?_)
  clear k5 K5
  refine W_block ?_
  refine Exists.elim h fun mu h => Exists.elim h fun mv h => ?_
  have ma := h.1
  have j4 := h.2
  clear h
  refine W_loopB [0, 4] [5] (fun m vals_ w2 => ∃ (df : Int) (al : sealskinref06_Journal) (ar : Option Addr) (au : Nat) (L H : Gh), vals_ = [vi df] ∧ mu m df al ∧ Inv [d0] G w L H w2 ∧ Le Gh.no L ∧ Le G H ∧ Tok H w2 d8 73 ([.slice ar al.L_.length au, .pointer (some ⟨d0, 0, none⟩), vi al.Gen_, vi al.File_]) ∧ al.L_.length ≤ au ∧ Sl H ar al.L_ ∧ Tok H w2 d0 81 ([.slice ba z0.F_.e0_.length bc, .slice bd z0.F_.e1_.length be, .slice bf z0.F_.e2_.length bg, vi z0.Room_, .bool z0.Off_, vi z0.Fuse_]) ∧ True) mv _ rfl ⟨1, (sealskinref06_Journal.mk [] 0 0), none, 0, _, _, rfl, ma, hI, Le.refl _, Le.refl _, lu, (Nat.le_refl 0), Sl.nil, af, trivial⟩ fun B_ b_ => ?_
  clear ma
  simp only [e_, Nat.reduceAdd, Nat.reduceBEq] at b_
  subst b_
  clear af
  rintro mw _ ox ⟨df, al, ar, au, mb, mc, rfl, j5, j6, aw, an, ab, cm, ah, af, -⟩
  replace hI := j6
  clear j6
  have h := j4 mw df al j5
  clear j4 j5
  replace ac := ac.up an
  replace ad := ad.up an
  replace ae := ae.up an
  replace ao := ao.trans aw
  replace am := am.trans an
  refine W_seq_k fun K7 k7 => ?_
  refine W_seq_k fun K8 k8 => ?_
  refine W_region [25, 26] rfl (Ops_step (R_move rfl) rfl rfl (Ops_step (R_lss rfl rfl) rfl rfl ?_))
  refine Ops_nil ?_
  refine then_n (k8 _ _ ?_)
  clear k8 K8
  refine W_if rfl (fun jw => ?_) (fun jw => ?_)
  ·
   replace h := h.1 jw
   refine W_skip ?_
   refine then_n (k7 _ _ ?_)
   clear k7 K7
   refine ex_ h fun lv ff h => ?_
   refine W_seq_join [0, 4, 5] [] (fun vals_ w2 => ∃ (a5 : sealskinref06_Journal) (bm : Option Addr) (bn : Nat) (L H : Gh), vals_ = [] ∧ lv a5 ∧ Inv [d0] G w L H w2 ∧ Le mb L ∧ Le mc H ∧ Tok H w2 d8 73 ([.slice bm a5.L_.length bn, .pointer (some ⟨d0, 0, none⟩), vi a5.Gen_, vi a5.File_]) ∧ a5.L_.length ≤ bn ∧ Sl H bm a5.L_ ∧ Tok H w2 d0 81 ([.slice ba z0.F_.e0_.length bc, .slice bd z0.F_.e1_.length be, .slice bf z0.F_.e2_.length bg, vi z0.Room_, .bool z0.Off_, vi z0.Fuse_]) ∧ True) (fun B_ b_ => ?_) (fun B_ b_ => ?_)
   ·
    simp only [e_, Nat.reduceAdd, Nat.reduceBEq] at b_
    subst b_
    clear ff
    have ak := Le.refl mb
    have aj := Le.refl mc
    refine W_block ?_
    refine W_seq_k fun K11 k11 => ?_
    refine W_region [30, 31, 32, 29, 33, 34, 6, 7] rfl (Ops_step (R_move rfl) rfl rfl (Ops_step (R_move rfl) rfl rfl ?_))
    refine Ops_call (C_func bd55 rfl) rfl rfl ?_
    refine (sealskinref05_Disk_Read_ok (x1 := df) (z0 := z0) hI.st (hg.up hI.le) af cj ac ck ad cl ae h).mono ?_
    rintro _ my ⟨j7, j8, fg, ie, mz, m0, rfl, ig, jx, bh, h⟩
    refine Exists.elim (hI.call ig (by simp)) fun md gt => ?_
    have me := hI.size
    replace hI := gt.1
    have co := gt.2.1
    have j9 := gt.2.2
    clear gt
    replace ac := ac.up co.hh
    replace ad := ad.up co.hh
    replace ae := ae.up co.hh
    replace ao := ao.trans co.ll
    replace am := am.trans co.hh
    replace af := af.up co (by simp)
    replace ab := ab.up co (by simp)
    replace ah := ah.up co.hh
    replace aw := aw.trans co.ll
    replace an := an.trans co.hh
    replace ak := ak.trans co.ll
    replace aj := aj.trans co.hh
    replace bh := bh.up (Le.refl _)
    clear ig co j9
    refine ⟨_, rfl, ?_⟩
    refine Ops_step (R_move rfl) rfl rfl ?_
    refine Ops_step (R_extract (v := .slice j7 fg.length j8) rfl rfl) rfl rfl ?_
    refine Ops_step (R_extract (v := vi ie) rfl rfl) rfl rfl ?_
    refine Ops_step (R_assign rfl) rfl rfl (Ops_step (R_assign rfl) rfl rfl ?_)
    refine Ops_nil ?_
    refine then_n (k11 _ _ ?_)
    clear k11 K11
    refine W_keepB [0, 4, 5, 6, 7] fun B_ b_ => ?_
    simp only [e_, Nat.reduceAdd, Nat.reduceBEq] at b_
    subst b_
    refine W_seq_k fun K14 k14 => ?_
    refine W_seq_k fun K15 k15 => ?_
    refine W_region [35, 36] rfl (Ops_step (R_move rfl) rfl rfl (Ops_step (R_neq rfl rfl) rfl rfl ?_))
    refine Ops_nil ?_
    refine then_n (k15 _ _ ?_)
    clear k15 K15
    refine W_if rfl (fun fh => ?_) (fun fh => ?_)
    ·
     replace h := h.1 fh
     refine W_seq_k fun K17 k17 => ?_
     refine W_region [37, 2, 3] rfl (Ops_step (R_move rfl) rfl rfl (Ops_step (R_assign rfl) rfl rfl (Ops_step (R_assign rfl) rfl rfl ?_)))
     refine Ops_nil ?_
     refine then_n (k17 _ _ ?_)
     clear k17 K17
     refine W_keepB [2, 3] fun B_ b_ => ?_
     simp only [e_, Nat.reduceAdd, Nat.reduceBEq] at b_
     subst b_
     refine W_ret ?_
     refine then_ret ?_
     clear k14 K14
     refine block_ret ?_
     refine then_ret ?_
     refine then_ret ?_
     refine block_ret ?_
     refine then_ret ?_
     refine ⟨_, ⟨_, _, rfl, rfl, ⟨_, _, rfl, rfl, rfl⟩⟩, ?_⟩
     exact .inl ⟨ie, z0, ba, bc, bd, be, bf, bg, _, _, rfl, hI, af, cj, ac, ck, ad, cl, ae, h⟩
    ·
     replace h := h.2 fh
     refine W_skip ?_
     refine then_n (k14 _ _ ?_)
     clear k14 K14
     refine W_seq_k fun K19 k19 => ?_
     refine W_region [39, 40, 38, 41, 42, 8, 9] rfl (Ops_step (R_move rfl) rfl rfl ?_)
     refine Ops_call (C_func bd56 rfl) rfl rfl ?_
     refine (sealskinref02_All_ok (x0 := fg) hI.st (hg.up hI.le) jx bh h).mono ?_
     rintro _ m1 ⟨ka, kb, cr, ii, m2, m3, rfl, ij, bw, h⟩
     refine Exists.elim (hI.call ij (by simp)) fun mf gu => ?_
     have kc := hI.size
     replace hI := gu.1
     have b8 := gu.2.1
     have ik := gu.2.2
     clear gu
     replace ac := ac.up b8.hh
     replace ad := ad.up b8.hh
     replace ae := ae.up b8.hh
     replace ao := ao.trans b8.ll
     replace am := am.trans b8.hh
     replace af := af.up b8 (by simp)
     replace ab := ab.up b8 (by simp)
     replace ah := ah.up b8.hh
     replace aw := aw.trans b8.ll
     replace an := an.trans b8.hh
     replace ak := ak.trans b8.ll
     replace aj := aj.trans b8.hh
     replace bh := bh.up b8.hh
     replace bw := OwnS.back bw kc ik (Le.refl _)
     clear ij b8 ik
     refine ⟨_, rfl, ?_⟩
     refine Exists.elim (bw.freeze hI) fun m4 ep => Exists.elim ep fun m5 ep => ?_
     replace hI := ep.1
     have b9 := ep.2.1
     have bt := ep.2.2.1 (Le.refl _)
     have fi := bw.cap
     replace ac := ac.up b9.hh
     replace ad := ad.up b9.hh
     replace ae := ae.up b9.hh
     replace ao := ao.trans b9.ll
     replace am := am.trans b9.hh
     replace af := af.up b9 (bw.old bv)
     replace ab := ab.up b9 (ab.sep bw (by decide))
     replace ah := ah.up b9.hh
     replace aw := aw.trans b9.ll
     replace an := an.trans b9.hh
     replace ak := ak.trans b9.ll
     replace aj := aj.trans b9.hh
     replace bh := bh.up b9.hh
     clear ep b9 bw
     refine Ops_step (R_move rfl) rfl rfl ?_
     refine Ops_step (R_extract (v := .slice ka cr.length kb) rfl rfl) rfl rfl ?_
     refine Ops_step (R_extract (v := vi ii) rfl rfl) rfl rfl ?_
     refine Ops_step (R_assign rfl) rfl rfl (Ops_step (R_assign rfl) rfl rfl ?_)
     refine Ops_nil ?_
     refine then_n (k19 _ _ ?_)
     clear k19 K19
     refine W_keepB [0, 4, 5, 6, 8, 9] fun B_ b_ => ?_
     simp only [e_, Nat.reduceAdd, Nat.reduceBEq] at b_
     subst b_
     refine W_seq_k fun K23 k23 => ?_
     refine W_region [44, 45, 43, 46, 47, 10, 11] rfl (Ops_step (R_move rfl) rfl rfl ?_)
     refine Ops_call (C_func bd57 rfl) rfl rfl ?_
     refine (sealskinref06_top_ok (x0 := cr) hI.st (hg.up hI.le) fi (bt.up hI.sub) h).mono ?_
     rintro _ m6 ⟨dt, ke, m7, kf, rfl, il, h⟩
     refine Exists.elim (hI.call il (by simp)) fun im gv => ?_
     have mg := hI.size
     replace hI := gv.1
     have bx := gv.2.1
     have kg := gv.2.2
     clear gv
     replace ac := ac.up bx.hh
     replace ad := ad.up bx.hh
     replace ae := ae.up bx.hh
     replace ao := ao.trans bx.ll
     replace am := am.trans bx.hh
     replace af := af.up bx (by simp)
     replace ab := ab.up bx (by simp)
     replace ah := ah.up bx.hh
     replace aw := aw.trans bx.ll
     replace an := an.trans bx.hh
     replace ak := ak.trans bx.ll
     replace aj := aj.trans bx.hh
     replace bh := bh.up bx.hh
     replace bt := bt.up bx.ll
     clear il bx kg
     refine ⟨_, rfl, ?_⟩
     refine Ops_step (R_move rfl) rfl rfl ?_
     refine Ops_step (R_extract (v := vi dt) rfl rfl) rfl rfl ?_
     refine Ops_step (R_extract (v := vi ke) rfl rfl) rfl rfl ?_
     refine Ops_step (R_assign rfl) rfl rfl (Ops_step (R_assign rfl) rfl rfl ?_)
     refine Ops_nil ?_
     refine then_n (k23 _ _ ?_)
     clear k23 K23
     refine W_seq_k fun K25 k25 => ?_
     refine ex_ h fun lw fj h => ?_
     refine W_seq_join [0, 4, 5, 8, 10, 11] [59] (fun vals_ w2 => ∃ (dg : Bool) (L H : Gh), vals_ = [.bool dg] ∧ lw dg ∧ Inv [d0] G w L H w2 ∧ Le im L ∧ Le kf H ∧ Tok H w2 d0 81 ([.slice ba z0.F_.e0_.length bc, .slice bd z0.F_.e1_.length be, .slice bf z0.F_.e2_.length bg, vi z0.Room_, .bool z0.Off_, vi z0.Fuse_]) ∧ Tok H w2 d8 73 ([.slice ar al.L_.length au, .pointer (some ⟨d0, 0, none⟩), vi al.Gen_, vi al.File_]) ∧ True) (fun B_ b_ => ?_) (fun B_ b_ => ?_)
     ·
      simp only [e_, Nat.reduceAdd, Nat.reduceBEq] at b_
      subst b_
      clear fj
      have bz := Le.refl im
      have a7 := Le.refl kf
      refine W_region [48, 49, 50, 51, 52, 53, 54, 55, 56, 57, 58, 59] rfl (Ops_step (R_move rfl) rfl rfl (Ops_step (R_move rfl) rfl rfl (Ops_step (R_nilCheck rfl) rfl rfl (Ops_step (R_fieldAddr fo73_2 rfl) rfl rfl ?_))))
      refine Ops_step (R_loadB (v := vi al.Gen_) ag3 rfl ab.blk rfl) rfl rfl ?_
      refine Ops_step (R_leq rfl rfl) rfl rfl (Ops_step (R_move rfl) rfl rfl ?_)
      refine Ops_split 54 rfl (fun fk => ?_) (fun fk => ?_)
      ·
       replace h := h.1 fk
       refine Ops_pass rfl rfl (Ops_pass rfl rfl (Ops_pass rfl rfl (Ops_pass rfl rfl (Ops_step (R_pick_true rfl rfl) rfl rfl ?_))))
       refine Ops_nil ?_
       refine then_n ?_
       exact ⟨_, rfl, ⟨true, _, _, rfl, h, hI, bz, a7, af, ab, trivial⟩, ⟨rfl, rfl, rfl, rfl, rfl, rfl, trivial⟩⟩
      ·
       replace h := h.2 fk
       refine Ops_step (R_move rfl) rfl rfl (Ops_step (R_move rfl) rfl rfl (Ops_step (R_len Try.underlying29 rfl rfl) rfl rfl (Ops_step (R_neq rfl rfl) rfl rfl (Ops_step (R_pick_false rfl rfl) rfl rfl ?_))))
       refine Ops_nil ?_
       refine then_n ?_
       exact ⟨_, rfl, ⟨(decide (ii ≠ (fg.length : Int))), _, _, rfl, h, hI, bz, a7, af, ab, trivial⟩, ⟨rfl, rfl, rfl, rfl, rfl, rfl, trivial⟩⟩
     ·
      simp only [e_, Nat.reduceAdd, Nat.reduceBEq] at b_
      subst b_
      clear h
      clear ab
      clear af
      rintro _ m8 ⟨dg, m9, na, rfl, io, ip, bz, a7, af, ab, -⟩
      replace hI := ip
      clear ip
      have h := fj dg io
      clear fj io
      replace ac := ac.up a7
      replace ad := ad.up a7
      replace ae := ae.up a7
      replace ao := ao.trans bz
      replace am := am.trans a7
      replace ah := ah.up a7
      replace aw := aw.trans bz
      replace an := an.trans a7
      replace ak := ak.trans bz
      replace aj := aj.trans a7
      replace bt := bt.up bz
      refine W_cond rfl (fun fm => ?_) (fun fm => ?_)
      ·
       replace h := h.1 fm
       refine W_exit ?_
       refine then_exit ?_
       clear k25 K25
       refine block_exit ?_
       refine then_n ?_
       exact ⟨_, rfl, ⟨al, ar, au, _, _, rfl, h, hI, ak, aj, ab, cm, ah, af, trivial⟩, ⟨rfl, rfl, rfl, trivial⟩⟩
      ·
       replace h := h.2 fm
       refine W_skip ?_
       refine then_n (k25 _ _ ?_)
       clear k25 K25
       refine W_seq_k fun K29 k29 => ?_
       refine W_region [60, 61, 62, 12] rfl (Ops_step (R_move rfl) rfl rfl ?_)
       have iq := h.1
       replace h := h.2
       refine Exists.elim (cut_ex (n := 1) (l := 1) (h := (cr.length : Int)) (bt.up hI.sub) rfl (by decide) fi (by decide) iq (Int.le_refl _)) fun nb eq => Exists.elim eq fun nc eq => ?_
       have ir := eq.1
       have kh := eq.2.1
       have ki := eq.2.2
       clear eq
       refine Ops_step (X_slice (xs := cr) Try.underlying67 sz29 rfl ir fi rfl rfl (by decide) iq (Int.le_refl _)) rfl rfl ?_
       clear ir
       refine Ops_call (C_func bd58 rfl) rfl rfl ?_
       refine (sealskinref06_rest_ok (x0 := (cut cr 1 (cr.length : Int))) (x1 := 0) hI.st (hg.up hI.le) kh ki h).mono ?_
       rintro _ nd ⟨it, iu, fo, nf, ng, rfl, iv, b4, h⟩
       refine Exists.elim (hI.call iv (by simp)) fun mh gw => ?_
       have kj := hI.size
       replace hI := gw.1
       have ca := gw.2.1
       have iw := gw.2.2
       clear gw
       replace ac := ac.up ca.hh
       replace ad := ad.up ca.hh
       replace ae := ae.up ca.hh
       replace ao := ao.trans ca.ll
       replace am := am.trans ca.hh
       replace ah := ah.up ca.hh
       replace aw := aw.trans ca.ll
       replace an := an.trans ca.hh
       replace ak := ak.trans ca.ll
       replace aj := aj.trans ca.hh
       replace bt := bt.up ca.ll
       replace af := af.up ca (by simp)
       replace ab := ab.up ca (by simp)
       replace b4 := OwnS.back b4 kj iw (Le.refl _)
       clear iv ca iw
       refine ⟨_, rfl, ?_⟩
       refine Exists.elim (b4.freeze hI) fun kk et => Exists.elim et fun kl et => ?_
       replace hI := et.1
       have cb := et.2.1
       have fp := et.2.2.1 (Le.refl _)
       have km := b4.cap
       replace ac := ac.up cb.hh
       replace ad := ad.up cb.hh
       replace ae := ae.up cb.hh
       replace ao := ao.trans cb.ll
       replace am := am.trans cb.hh
       replace ah := ah.up cb.hh
       replace aw := aw.trans cb.ll
       replace an := an.trans cb.hh
       replace ak := ak.trans cb.ll
       replace aj := aj.trans cb.hh
       replace bt := bt.up cb.ll
       replace af := af.up cb (b4.old bv)
       replace ab := ab.up cb (ab.sep b4 (by decide))
       clear et cb b4
       refine Ops_step (R_assign rfl) rfl rfl ?_
       refine Ops_nil ?_
       refine then_n (k29 _ _ ?_)
       clear k29 K29
       refine ex_ h fun lx fq h => ?_
       refine W_seq_join [0, 4, 5, 10, 12] [74] (fun vals_ w2 => ∃ (dh : Bool) (L H : Gh), vals_ = [.bool dh] ∧ lx dh ∧ Inv [d0] G w L H w2 ∧ Le kk L ∧ Le kl H ∧ Tok H w2 d0 81 ([.slice ba z0.F_.e0_.length bc, .slice bd z0.F_.e1_.length be, .slice bf z0.F_.e2_.length bg, vi z0.Room_, .bool z0.Off_, vi z0.Fuse_]) ∧ Tok H w2 d8 73 ([.slice ar al.L_.length au, .pointer (some ⟨d0, 0, none⟩), vi al.Gen_, vi al.File_]) ∧ True) (fun B_ b_ => ?_) (fun B_ b_ => ?_)
       ·
        simp only [e_, Nat.reduceAdd, Nat.reduceBEq] at b_
        subst b_
        clear fq
        have b5 := Le.refl kk
        have a8 := Le.refl kl
        refine W_region [63, 64, 65, 66, 67, 68, 69, 70, 71, 72, 73, 74] rfl (Ops_step (R_move rfl) rfl rfl (Ops_step (R_len Try.underlying36 rfl rfl) rfl rfl (Ops_step (R_move rfl) rfl rfl (Ops_step (R_eql rfl rfl) rfl rfl ?_))))
        refine Ops_step (R_move rfl) rfl rfl ?_
        refine Ops_split 67 rfl (fun ft => ?_) (fun ft => ?_)
        ·
         replace h := h.1 ft
         refine Ops_step (R_move rfl) rfl rfl (Ops_step (R_len Try.underlying36 rfl rfl) rfl rfl (Ops_step (R_move rfl) rfl rfl (Ops_step (R_len Try.underlying67 rfl rfl) rfl rfl ?_)))
         have ix := h.1
         replace h := h.2
         refine Ops_step (R_sub rfl rfl (wI ix.1 ix.2)) rfl rfl (Ops_step (R_eql rfl rfl) rfl rfl (Ops_step (R_pick_true rfl rfl) rfl rfl ?_))
         refine Ops_nil ?_
         refine then_n ?_
         exact ⟨_, rfl, ⟨(decide ((fo.length : Int) = ((cr.length : Int) - 1))), _, _, rfl, h, hI, b5, a8, af, ab, trivial⟩, ⟨rfl, rfl, rfl, rfl, rfl, trivial⟩⟩
        ·
         replace h := h.2 ft
         refine Ops_pass rfl rfl (Ops_pass rfl rfl (Ops_pass rfl rfl (Ops_pass rfl rfl (Ops_pass rfl rfl ?_))))
         refine Ops_pass rfl rfl (Ops_step (R_pick_false rfl rfl) rfl rfl ?_)
         refine Ops_nil ?_
         refine then_n ?_
         exact ⟨_, rfl, ⟨false, _, _, rfl, h, hI, b5, a8, af, ab, trivial⟩, ⟨rfl, rfl, rfl, rfl, rfl, trivial⟩⟩
       ·
        simp only [e_, Nat.reduceAdd, Nat.reduceBEq] at b_
        subst b_
        clear h
        clear ab
        clear af
        rintro _ nh ⟨dh, ni, jy, rfl, iy, iz, b5, a8, af, ab, -⟩
        replace hI := iz
        clear iz
        have h := fq dh iy
        clear fq iy
        replace ac := ac.up a8
        replace ad := ad.up a8
        replace ae := ae.up a8
        replace ao := ao.trans b5
        replace am := am.trans a8
        replace ah := ah.up a8
        replace aw := aw.trans b5
        replace an := an.trans a8
        replace ak := ak.trans b5
        replace aj := aj.trans a8
        replace fp := fp.up b5
        refine W_cond rfl (fun fu => ?_) (fun fu => ?_)
        ·
         replace h := h.1 fu
         refine W_seq_k fun K38 k38 => ?_
         refine W_region [75, 76, 77, 78, none] rfl (Ops_step (R_move rfl) rfl rfl (Ops_step (R_move rfl) rfl rfl (Ops_step (R_nilCheck rfl) rfl rfl (Ops_step (R_fieldAddr fo73_2 rfl) rfl rfl ?_))))
         refine Ops_to0 (R_store sz3 rfl rfl ab.blk (by show 2 < 4; decide) rfl) rfl ?_
         rintro _ nj ⟨i0, fv⟩
         replace hI := hI.tok fv (out1 ab.out) (new1 bl)
         replace af := af.fr fv (af.apart ab (by decide))
         replace ab : Tok jy _ d8 73 ([.slice ar al.L_.length au, .pointer (some ⟨d0, 0, none⟩), vi dt, vi al.File_]) := ⟨i0, ab.out⟩
         clear fv i0
         refine Ops_nil ?_
         refine then_n (k38 _ _ ?_)
         clear k38 K38
         refine W_keepB [0, 4, 5, 12] fun B_ b_ => ?_
         simp only [e_, Nat.reduceAdd, Nat.reduceBEq] at b_
         subst b_
         refine W_seq_k fun K41 k41 => ?_
         refine W_region [79, 80, 81, 82, none] rfl (Ops_step (R_move rfl) rfl rfl (Ops_step (R_move rfl) rfl rfl (Ops_step (R_nilCheck rfl) rfl rfl (Ops_step (R_fieldAddr fo73_3 rfl) rfl rfl ?_))))
         refine Ops_to0 (R_store sz3 rfl rfl ab.blk (by show 3 < 4; decide) rfl) rfl ?_
         rintro _ nk ⟨i1, fw⟩
         replace hI := hI.tok fw (out1 ab.out) (new1 bl)
         replace af := af.fr fw (af.apart ab (by decide))
         replace ab : Tok jy _ d8 73 ([.slice ar al.L_.length au, .pointer (some ⟨d0, 0, none⟩), vi dt, vi df]) := ⟨i1, ab.out⟩
         clear fw i1
         refine Ops_nil ?_
         refine then_n (k41 _ _ ?_)
         clear k41 K41
         refine W_region [83, 84, 85, 86, none] rfl (Ops_step (R_move rfl) rfl rfl (Ops_step (R_move rfl) rfl rfl (Ops_step (R_nilCheck rfl) rfl rfl (Ops_step (R_fieldAddr fo73_0 rfl) rfl rfl ?_))))
         refine Ops_to0 (R_store sz36 rfl rfl ab.blk (by show 0 < 4; decide) rfl) rfl ?_
         rintro _ nl ⟨i2, fx⟩
         replace hI := hI.tok fx (out1 ab.out) (new1 bl)
         replace af := af.fr fx (af.apart ab (by decide))
         replace ab : Tok jy _ d8 73 ([.slice it fo.length iu, .pointer (some ⟨d0, 0, none⟩), vi dt, vi df]) := ⟨i2, ab.out⟩
         clear fx i2
         refine Ops_nil ?_
         refine block_n ?_
         refine then_n ?_
         exact ⟨_, rfl, ⟨(sealskinref06_Journal.mk fo dt df), it, iu, _, _, rfl, h, hI, ak, aj, ab, km, (fp.up hI.sub), af, trivial⟩, ⟨rfl, rfl, rfl, trivial⟩⟩
        ·
         replace h := h.2 fu
         refine W_skip ?_
         refine block_n ?_
         refine then_n ?_
         exact ⟨_, rfl, ⟨al, ar, au, _, _, rfl, h, hI, ak, aj, ab, cm, ah, af, trivial⟩, ⟨rfl, rfl, rfl, trivial⟩⟩
   ·
    simp only [e_, Nat.reduceAdd, Nat.reduceBEq] at b_
    subst b_
    clear h
    clear af
    rintro _ nm ⟨a5, bm, bn, nn, np, rfl, i3, i4, ak, aj, fy, d9, ea, af, -⟩
    replace hI := i4
    clear i4
    have h := ff a5 i3
    clear ff i3
    replace ac := ac.up aj
    replace ad := ad.up aj
    replace ae := ae.up aj
    replace ao := ao.trans ak
    replace am := am.trans aj
    replace aw := aw.trans ak
    replace an := an.trans aj
    refine W_region [27, 28, 5] rfl (Ops_step (R_move rfl) rfl rfl ?_)
    have i5 := h.1
    replace h := h.2
    refine Ops_step (R_add rfl rfl (wI i5.1 i5.2)) rfl rfl (Ops_step (R_assign rfl) rfl rfl ?_)
    refine Ops_nil ?_
    refine then_n ?_
    exact h.elim fun m_ h => ⟨m_, _, h.1, rfl, ⟨(df + 1), a5, bm, bn, _, _, rfl, h.2, hI, aw, an, fy, d9, ea, af, trivial⟩, ⟨rfl, rfl, trivial⟩⟩
  ·
   replace h := h.2 jw
   refine W_exit ?_
   refine then_exit ?_
   clear k7 K7
   refine then_exit ?_
   refine block_exit ?_
   refine then_n ?_
   exact ⟨_, rfl, ⟨al, ar, au, _, _, rfl, h, hI, ao, am, ab, cm, ah, af, trivial⟩, ⟨rfl, rfl, trivial⟩⟩
 ·
  simp only [e_, Nat.reduceAdd, Nat.reduceBEq] at b_
  subst b_
  clear h
  clear af
  rintro _ oy ⟨ai, az, a4, oz, o4, rfl, ko, kp, ao, am, aa, eu, ag, af, -⟩
  replace hI := kp
  clear kp
  have h := jv ai ko
  clear jv ko
  replace ac := ac.up am
  replace ad := ad.up am
  replace ae := ae.up am
  refine W_seq_k fun K45 k45 => ?_
  refine W_region [88, 89, 87, 90, 91, 13, 14] rfl (Ops_step (R_move rfl) rfl rfl ?_)
  refine Ops_call (C_func bd55 rfl) rfl rfl ?_
  refine (sealskinref05_Disk_Read_ok (x1 := 0) (z0 := z0) hI.st (hg.up hI.le) af cj ac ck ad cl ae h).mono ?_
  rintro _ nq ⟨kq, kr, i6, i7, nr, ns, rfl, i8, jz, av, h⟩
  refine Exists.elim (hI.call i8 (by simp)) fun mi gx => ?_
  have mj := hI.size
  replace hI := gx.1
  have eb := gx.2.1
  have kt := gx.2.2
  clear gx
  replace ac := ac.up eb.hh
  replace ad := ad.up eb.hh
  replace ae := ae.up eb.hh
  replace af := af.up eb (by simp)
  replace aa := aa.up eb (by simp)
  replace ag := ag.up eb.hh
  replace av := av.up (Le.refl _)
  clear i8 eb kt
  refine ⟨_, rfl, ?_⟩
  refine Ops_step (R_move rfl) rfl rfl ?_
  refine Ops_step (R_extract (v := .slice kq i6.length kr) rfl rfl) rfl rfl ?_
  refine Ops_step (R_extract (v := vi i7) rfl rfl) rfl rfl ?_
  refine Ops_step (R_assign rfl) rfl rfl (Ops_step (R_assign rfl) rfl rfl ?_)
  refine Ops_nil ?_
  refine then_n (k45 _ _ ?_)
  clear k45 K45
  refine W_keepB [4, 13, 14] fun B_ b_ => ?_
  simp only [e_, Nat.reduceAdd, Nat.reduceBEq] at b_
  subst b_
  refine W_seq_k fun K48 k48 => ?_
  refine W_seq_k fun K49 k49 => ?_
  refine W_region [92, 93] rfl (Ops_step (R_move rfl) rfl rfl (Ops_step (R_neq rfl rfl) rfl rfl ?_))
  refine Ops_nil ?_
  refine then_n (k49 _ _ ?_)
  clear k49 K49
  refine W_if rfl (fun f0 => ?_) (fun f0 => ?_)
  ·
   replace h := h.1 f0
   refine W_seq_k fun K51 k51 => ?_
   refine W_region [94, 2, 3] rfl (Ops_step (R_move rfl) rfl rfl (Ops_step (R_assign rfl) rfl rfl (Ops_step (R_assign rfl) rfl rfl ?_)))
   refine Ops_nil ?_
   refine then_n (k51 _ _ ?_)
   clear k51 K51
   refine W_keepB [2, 3] fun B_ b_ => ?_
   simp only [e_, Nat.reduceAdd, Nat.reduceBEq] at b_
   subst b_
   refine W_ret ?_
   refine then_ret ?_
   clear k48 K48
   refine ⟨_, ⟨_, _, rfl, rfl, ⟨_, _, rfl, rfl, rfl⟩⟩, ?_⟩
   exact .inl ⟨i7, z0, ba, bc, bd, be, bf, bg, _, _, rfl, hI, af, cj, ac, ck, ad, cl, ae, h⟩
  ·
   replace h := h.2 f0
   refine W_skip ?_
   refine then_n (k48 _ _ ?_)
   clear k48 K48
   refine W_seq_k fun K53 k53 => ?_
   refine W_region [96, 97, 95, 98, 99, 15, 16] rfl (Ops_step (R_move rfl) rfl rfl ?_)
   refine Ops_call (C_func bd56 rfl) rfl rfl ?_
   refine (sealskinref02_All_ok (x0 := i6) hI.st (hg.up hI.le) jz av h).mono ?_
   rintro _ nt ⟨ku, kv, ct, kw, nu, nv, rfl, i9, b6, h⟩
   refine Exists.elim (hI.call i9 (by simp)) fun ml gy => ?_
   have kx := hI.size
   replace hI := gy.1
   have du := gy.2.1
   have ja := gy.2.2
   clear gy
   replace ac := ac.up du.hh
   replace ad := ad.up du.hh
   replace ae := ae.up du.hh
   replace af := af.up du (by simp)
   replace aa := aa.up du (by simp)
   replace ag := ag.up du.hh
   replace av := av.up du.hh
   replace b6 := OwnS.back b6 kx ja (Le.refl _)
   clear i9 du ja
   refine ⟨_, rfl, ?_⟩
   refine Exists.elim (b6.freeze hI) fun nw ew => Exists.elim ew fun nx ew => ?_
   replace hI := ew.1
   have dv := ew.2.1
   have bu := ew.2.2.1 (Le.refl _)
   have f8 := b6.cap
   replace ac := ac.up dv.hh
   replace ad := ad.up dv.hh
   replace ae := ae.up dv.hh
   replace af := af.up dv (b6.old bv)
   replace aa := aa.up dv (aa.sep b6 (by decide))
   replace ag := ag.up dv.hh
   replace av := av.up dv.hh
   clear ew dv b6
   refine Ops_step (R_move rfl) rfl rfl ?_
   refine Ops_step (R_extract (v := .slice ku ct.length kv) rfl rfl) rfl rfl ?_
   refine Ops_step (R_extract (v := vi kw) rfl rfl) rfl rfl ?_
   refine Ops_step (R_assign rfl) rfl rfl (Ops_step (R_assign rfl) rfl rfl ?_)
   refine Ops_nil ?_
   refine then_n (k53 _ _ ?_)
   clear k53 K53
   refine W_keepB [4, 13, 15, 16] fun B_ b_ => ?_
   simp only [e_, Nat.reduceAdd, Nat.reduceBEq] at b_
   subst b_
   refine W_seq_k fun K57 k57 => ?_
   refine W_region [101, 102, 100, 103, 104, 17, 18] rfl (Ops_step (R_move rfl) rfl rfl ?_)
   refine Ops_call (C_func bd57 rfl) rfl rfl ?_
   refine (sealskinref06_top_ok (x0 := ct) hI.st (hg.up hI.le) f8 (bu.up hI.sub) h).mono ?_
   rintro _ ny ⟨ky, f9, nz, gz, rfl, jb, h⟩
   refine Exists.elim (hI.call jb (by simp)) fun eh g6 => ?_
   have mm := hI.size
   replace hI := g6.1
   have di := g6.2.1
   have kz := g6.2.2
   clear g6
   replace ac := ac.up di.hh
   replace ad := ad.up di.hh
   replace ae := ae.up di.hh
   replace af := af.up di (by simp)
   replace aa := aa.up di (by simp)
   replace ag := ag.up di.hh
   replace av := av.up di.hh
   replace bu := bu.up di.ll
   clear jb di kz
   refine ⟨_, rfl, ?_⟩
   refine Ops_step (R_move rfl) rfl rfl ?_
   refine Ops_step (R_extract (v := vi ky) rfl rfl) rfl rfl ?_
   refine Ops_step (R_extract (v := vi f9) rfl rfl) rfl rfl ?_
   refine Ops_step (R_assign rfl) rfl rfl (Ops_step (R_assign rfl) rfl rfl ?_)
   refine Ops_nil ?_
   refine then_n (k57 _ _ ?_)
   clear k57 K57
   refine W_seq_k fun K59 k59 => ?_
   refine W_region [19] rfl (Ops_step (R_assign rfl) rfl rfl ?_)
   refine Ops_nil ?_
   refine then_n (k59 _ _ ?_)
   clear k59 K59
   refine ex_ h fun ly ga h => ?_
   refine W_seq_join [4] [19] (fun vals_ w2 => ∃ (dj : Bool) (ay : sealskinref06_Journal) (bo : Option Addr) (bp : Nat) (L H : Gh), vals_ = [.bool dj] ∧ ly dj ay ∧ Inv [d0] G w L H w2 ∧ Le eh L ∧ Le gz H ∧ Tok H w2 d8 73 ([.slice bo ay.L_.length bp, .pointer (some ⟨d0, 0, none⟩), vi ay.Gen_, vi ay.File_]) ∧ ay.L_.length ≤ bp ∧ Sl H bo ay.L_ ∧ Tok H w2 d0 81 ([.slice ba z0.F_.e0_.length bc, .slice bd z0.F_.e1_.length be, .slice bf z0.F_.e2_.length bg, vi z0.Room_, .bool z0.Off_, vi z0.Fuse_]) ∧ True) (fun B_ b_ => ?_) (fun B_ b_ => ?_)
   ·
    simp only [e_, Nat.reduceAdd, Nat.reduceBEq] at b_
    subst b_
    clear ga
    have ax := Le.refl eh
    have ap := Le.refl gz
    refine ex_ h fun lz gb h => ?_
    refine W_seq_join [4, 13, 15, 16, 18, 19] [123] (fun vals_ w2 => ∃ (cq : Bool) (L H : Gh), vals_ = [.bool cq] ∧ lz cq ∧ Inv [d0] G w L H w2 ∧ Le eh L ∧ Le gz H ∧ Tok H w2 d0 81 ([.slice ba z0.F_.e0_.length bc, .slice bd z0.F_.e1_.length be, .slice bf z0.F_.e2_.length bg, vi z0.Room_, .bool z0.Off_, vi z0.Fuse_]) ∧ Tok H w2 d8 73 ([.slice az ai.L_.length a4, .pointer (some ⟨d0, 0, none⟩), vi ai.Gen_, vi ai.File_]) ∧ True) (fun B_ b_ => ?_) (fun B_ b_ => ?_)
    ·
     simp only [e_, Nat.reduceAdd, Nat.reduceBEq] at b_
     subst b_
     clear gb
     have cp := Le.refl eh
     have a9 := Le.refl gz
     refine W_region [105, 106, 107, 108, 109, 110, 111, 112, 113, 114, 115, 116, 117, 118, 119, 120, 121, 122, 123] rfl (Ops_step (R_move rfl) rfl rfl (Ops_step (R_gtr rfl rfl) rfl rfl (Ops_step (R_move rfl) rfl rfl ?_)))
     refine Ops_split 107 rfl (fun gc => ?_) (fun gc => ?_)
     ·
      replace h := h.1 gc
      refine Ops_step (R_move rfl) rfl rfl (Ops_step (R_move rfl) rfl rfl (Ops_step (R_nilCheck rfl) rfl rfl (Ops_step (R_fieldAddr fo73_2 rfl) rfl rfl ?_)))
      refine Ops_step (R_loadB (v := vi ai.Gen_) ag3 rfl aa.blk rfl) rfl rfl ?_
      refine Ops_step (R_eql rfl rfl) rfl rfl (Ops_step (R_pick_true rfl rfl) rfl rfl (Ops_step (R_move rfl) rfl rfl ?_))
      refine Ops_split 115 rfl (fun gf => ?_) (fun gf => ?_)
      ·
       replace h := h.1 gf
       refine Ops_step (R_move rfl) rfl rfl (Ops_step (R_move rfl) rfl rfl (Ops_step (R_nilCheck rfl) rfl rfl (Ops_step (R_fieldAddr fo73_0 rfl) rfl rfl ?_)))
       refine Ops_step (R_loadB (v := .slice az ai.L_.length a4) ag36 rfl aa.blk rfl) rfl rfl ?_
       refine Ops_step (R_len Try.underlying36 rfl rfl) rfl rfl (Ops_step (R_eql rfl rfl) rfl rfl (Ops_step (R_pick_true rfl rfl) rfl rfl ?_))
       refine Ops_nil ?_
       refine then_n ?_
       exact ⟨_, rfl, ⟨(decide (f9 = (ai.L_.length : Int))), _, _, rfl, h, hI, cp, a9, af, aa, trivial⟩, ⟨rfl, rfl, rfl, rfl, rfl, rfl, trivial⟩⟩
      ·
       replace h := h.2 gf
       refine Ops_pass rfl rfl (Ops_pass rfl rfl (Ops_pass rfl rfl (Ops_pass rfl rfl (Ops_pass rfl rfl ?_))))
       refine Ops_pass rfl rfl (Ops_pass rfl rfl (Ops_step (R_pick_false rfl rfl) rfl rfl ?_))
       refine Ops_nil ?_
       refine then_n ?_
       exact ⟨_, rfl, ⟨false, _, _, rfl, h, hI, cp, a9, af, aa, trivial⟩, ⟨rfl, rfl, rfl, rfl, rfl, rfl, trivial⟩⟩
     ·
      replace h := h.2 gc
      refine Ops_pass rfl rfl (Ops_pass rfl rfl (Ops_pass rfl rfl (Ops_pass rfl rfl (Ops_pass rfl rfl ?_))))
      refine Ops_pass rfl rfl (Ops_step (R_pick_false rfl rfl) rfl rfl (Ops_step (R_move rfl) rfl rfl (Ops_pass rfl rfl (Ops_pass rfl rfl ?_))))
      refine Ops_pass rfl rfl (Ops_pass rfl rfl (Ops_pass rfl rfl (Ops_pass rfl rfl (Ops_pass rfl rfl ?_))))
      refine Ops_step (R_pick_false rfl rfl) rfl rfl ?_
      refine Ops_nil ?_
      refine then_n ?_
      exact ⟨_, rfl, ⟨false, _, _, rfl, h, hI, cp, a9, af, aa, trivial⟩, ⟨rfl, rfl, rfl, rfl, rfl, rfl, trivial⟩⟩
    ·
     simp only [e_, Nat.reduceAdd, Nat.reduceBEq] at b_
     subst b_
     clear h
     clear aa
     clear af
     rintro _ n0 ⟨cq, n2, n3, rfl, jc, jd, cp, a9, af, aa, -⟩
     replace hI := jd
     clear jd
     have h := gb cq jc
     clear gb jc
     replace ac := ac.up a9
     replace ad := ad.up a9
     replace ae := ae.up a9
     replace ag := ag.up a9
     replace av := av.up a9
     replace bu := bu.up cp
     replace ax := ax.trans cp
     replace ap := ap.trans a9
     refine W_cond rfl (fun gg => ?_) (fun gg => ?_)
     ·
      replace h := h.1 gg
      refine W_seq_k fun K65 k65 => ?_
      refine W_region [124, 125, 126, 127, 20] rfl (Ops_step (R_move rfl) rfl rfl ?_)
      have je := h.1
      replace h := h.2
      refine Exists.elim (cut_ex (n := 1) (l := 1) (h := (ct.length : Int)) (bu.up hI.sub) rfl (by decide) f8 (by decide) je (Int.le_refl _)) fun n4 ex => Exists.elim ex fun n5 ex => ?_
      have jf := ex.1
      have la := ex.2.1
      have lb := ex.2.2
      clear ex
      refine Ops_step (X_slice (xs := ct) Try.underlying67 sz29 rfl jf f8 rfl rfl (by decide) je (Int.le_refl _)) rfl rfl ?_
      clear jf
      refine Ops_step (R_move rfl) rfl rfl ?_
      refine Ops_call (C_func bd58 rfl) rfl rfl ?_
      refine (sealskinref06_rest_ok (x0 := (cut ct 1 (ct.length : Int))) (x1 := f9) hI.st (hg.up hI.le) la lb h).mono ?_
      rintro _ n6 ⟨mn, mo, ei, n7, n8, rfl, jg, b7, h⟩
      refine Exists.elim (hI.call jg (by simp)) fun mp g7 => ?_
      have lc := hI.size
      replace hI := g7.1
      have cu := g7.2.1
      have jh := g7.2.2
      clear g7
      replace ac := ac.up cu.hh
      replace ad := ad.up cu.hh
      replace ae := ae.up cu.hh
      replace ag := ag.up cu.hh
      replace av := av.up cu.hh
      replace bu := bu.up cu.ll
      replace ax := ax.trans cu.ll
      replace ap := ap.trans cu.hh
      replace af := af.up cu (by simp)
      replace aa := aa.up cu (by simp)
      replace b7 := OwnS.back b7 lc jh (Le.refl _)
      clear jg cu jh
      refine ⟨_, rfl, ?_⟩
      refine Exists.elim (b7.freeze hI) fun ld ey => Exists.elim ey fun lf ey => ?_
      replace hI := ey.1
      have cv := ey.2.1
      have gh := ey.2.2.1 (Le.refl _)
      have mq := b7.cap
      replace ac := ac.up cv.hh
      replace ad := ad.up cv.hh
      replace ae := ae.up cv.hh
      replace ag := ag.up cv.hh
      replace av := av.up cv.hh
      replace bu := bu.up cv.ll
      replace ax := ax.trans cv.ll
      replace ap := ap.trans cv.hh
      replace af := af.up cv (b7.old bv)
      replace aa := aa.up cv (aa.sep b7 (by decide))
      clear ey cv b7
      refine Ops_step (R_assign rfl) rfl rfl ?_
      refine Ops_nil ?_
      refine then_n (k65 _ _ ?_)
      clear k65 K65
      refine W_keepB [4, 13, 15, 16, 20] fun B_ b_ => ?_
      simp only [e_, Nat.reduceAdd, Nat.reduceBEq] at b_
      subst b_
      refine ex_ h fun l4 gi h => ?_
      refine W_seq_join [4, 20] [19] (fun vals_ w2 => ∃ (cw : Bool) (L H : Gh), vals_ = [.bool cw] ∧ l4 cw ∧ Inv [d0] G w L H w2 ∧ Le ld L ∧ Le lf H ∧ Tok H w2 d0 81 ([.slice ba z0.F_.e0_.length bc, .slice bd z0.F_.e1_.length be, .slice bf z0.F_.e2_.length bg, vi z0.Room_, .bool z0.Off_, vi z0.Fuse_]) ∧ Tok H w2 d8 73 ([.slice az ai.L_.length a4, .pointer (some ⟨d0, 0, none⟩), vi ai.Gen_, vi ai.File_]) ∧ True) (fun B_ b_ => ?_) (fun B_ b_ => ?_)
      ·
       simp only [e_, Nat.reduceAdd, Nat.reduceBEq] at b_
       subst b_
       clear gi
       have cx := Le.refl ld
       have bj := Le.refl lf
       refine W_region [128, 129, 130, 131, 132, 133, 134, 135, 136, 137, 138, 139, 19] rfl (Ops_step (R_move rfl) rfl rfl (Ops_step (R_move rfl) rfl rfl (Ops_step (R_len Try.underlying29 rfl rfl) rfl rfl (Ops_step (R_eql rfl rfl) rfl rfl ?_))))
       refine Ops_step (R_move rfl) rfl rfl ?_
       refine Ops_split 132 rfl (fun gj => ?_) (fun gj => ?_)
       ·
        replace h := h.1 gj
        refine Ops_step (R_move rfl) rfl rfl (Ops_step (R_len Try.underlying36 rfl rfl) rfl rfl (Ops_step (R_move rfl) rfl rfl (Ops_step (R_len Try.underlying67 rfl rfl) rfl rfl ?_)))
        have ji := h.1
        replace h := h.2
        refine Ops_step (R_sub rfl rfl (wI ji.1 ji.2)) rfl rfl (Ops_step (R_eql rfl rfl) rfl rfl (Ops_step (R_pick_true rfl rfl) rfl rfl (Ops_step (R_assign rfl) rfl rfl ?_)))
        refine Ops_nil ?_
        refine then_n ?_
        exact ⟨_, rfl, ⟨(decide ((ei.length : Int) = ((ct.length : Int) - 1))), _, _, rfl, h, hI, cx, bj, af, aa, trivial⟩, ⟨rfl, rfl, trivial⟩⟩
       ·
        replace h := h.2 gj
        refine Ops_pass rfl rfl (Ops_pass rfl rfl (Ops_pass rfl rfl (Ops_pass rfl rfl (Ops_pass rfl rfl ?_))))
        refine Ops_pass rfl rfl (Ops_step (R_pick_false rfl rfl) rfl rfl (Ops_step (R_assign rfl) rfl rfl ?_))
        refine Ops_nil ?_
        refine then_n ?_
        exact ⟨_, rfl, ⟨false, _, _, rfl, h, hI, cx, bj, af, aa, trivial⟩, ⟨rfl, rfl, trivial⟩⟩
      ·
       simp only [e_, Nat.reduceAdd, Nat.reduceBEq] at b_
       subst b_
       clear h
       clear aa
       clear af
       rintro _ n9 ⟨cw, l5, l6, rfl, jj, jk, cx, bj, af, aa, -⟩
       replace hI := jk
       clear jk
       have h := gi cw jj
       clear gi jj
       replace ac := ac.up bj
       replace ad := ad.up bj
       replace ae := ae.up bj
       replace ag := ag.up bj
       replace ax := ax.trans cx
       replace ap := ap.trans bj
       replace gh := gh.up cx
       refine W_region [140, 141, 142, 143, 144, 145, 146, 147, 148, 149, 150, none] rfl (Ops_step (R_move rfl) rfl rfl ?_)
       refine Ops_to (R_buildSlice0 el36) rfl rfl ?_
       rintro _ oa ⟨l7, rfl, lg, jl, ej⟩
       have c7 : OwnS w.heap.size 39 l5 l6 _ (some ⟨l7, 0, none⟩) 0 ([] : List sealskinref06_Record) := OwnS.ofBlk (css := []) hI.st lg jl .nil rfl (by have := hI.size; omega) (by show 0 ≤ maxLen; decide)
       replace hI := hI.fr0 ej
       replace af := af.fr0 ej
       replace aa := aa.fr0 ej
       clear ej jl
       refine Ops_step (R_move rfl) rfl rfl (Ops_step (R_nilCheck rfl) rfl rfl (Ops_step (R_fieldAddr fo73_0 rfl) rfl rfl ?_))
       refine Ops_step (R_loadB (v := .slice az ai.L_.length a4) ag36 rfl aa.blk rfl) rfl rfl ?_
       have lh := h.1
       replace h := h.2
       refine Ops_to (X_append (α := sealskinref06_Record) (xs := ([] : List sealskinref06_Record)) (ys := ai.L_) el36 rfl rfl (c7.hl hI.sub) (Srcs.ofSl Try.underlying36 ag hI.st (by decide)) hI.st lh (by decide) hI.size) rfl rfl ?_
       rintro _ ob ⟨oc, od, rfl, c8, ek, j0⟩
       clear j0
       replace hI := hI.tok ek c7.out (c7.new (Nat.le_refl _))
       replace af := af.fr ek (c7.old bv)
       replace aa := aa.fr ek (aa.sep c7 (by decide))
       clear ek c7
       refine Ops_step (R_move rfl) rfl rfl ?_
       have li := h.1
       replace h := h.2
       refine Ops_to (X_append (α := sealskinref06_Record) (xs := (([] : List sealskinref06_Record) ++ ai.L_)) (ys := ei) el36 rfl rfl c8 (Srcs.ofSl Try.underlying36 (gh.up hI.sub) hI.st (by decide)) hI.st li (by decide) hI.size) rfl rfl ?_
       rintro _ oe ⟨lj, lk, rfl, dw, en, j1⟩
       clear j1
       replace hI := hI.tok en c8.out (c8.new (Nat.le_refl _))
       replace af := af.fr en (c8.old bv)
       replace aa := aa.fr en (aa.sep c8 (by decide))
       clear en c8
       refine Ops_step (R_nilCheck rfl) rfl rfl (Ops_step (R_fieldAddr fo73_0 rfl) rfl rfl ?_)
       refine Exists.elim (dw.freeze hI) fun og ez => Exists.elim ez fun l8 ez => ?_
       replace hI := ez.1
       have dk := ez.2.1
       have lm := ez.2.2.2 (Le.refl _)
       have ln := dw.cap
       replace ac := ac.up dk.hh
       replace ad := ad.up dk.hh
       replace ae := ae.up dk.hh
       replace ag := ag.up dk.hh
       replace ax := ax.trans dk.ll
       replace ap := ap.trans dk.hh
       replace af := af.up dk (dw.old bv)
       replace aa := aa.up dk (aa.sep dw (by decide))
       clear ez dk dw
       refine Ops_to0 (R_store sz36 rfl rfl aa.blk (by show 0 < 4; decide) rfl) rfl ?_
       rintro _ oh ⟨jm, gk⟩
       replace hI := hI.tok gk (out1 aa.out) (new1 bl)
       replace af := af.fr gk (af.apart aa (by decide))
       replace aa : Tok l8 _ d8 73 ([.slice lj (((([] : List sealskinref06_Record) ++ ai.L_) ++ ei).length) lk, .pointer (some ⟨d0, 0, none⟩), vi ai.Gen_, vi ai.File_]) := ⟨jm, aa.out⟩
       clear gk jm
       refine Ops_nil ?_
       refine then_n ?_
       exact ⟨_, rfl, ⟨cw, (sealskinref06_Journal.mk ((([] : List sealskinref06_Record) ++ ai.L_) ++ ei) ai.Gen_ ai.File_), lj, lk, _, _, rfl, h, hI, ax, ap, aa, ln, lm, af, trivial⟩, ⟨rfl, trivial⟩⟩
     ·
      replace h := h.2 gg
      refine W_skip ?_
      refine then_n ?_
      exact ⟨_, rfl, ⟨false, ai, az, a4, _, _, rfl, h, hI, ax, ap, aa, eu, ag, af, trivial⟩, ⟨rfl, trivial⟩⟩
   ·
    simp only [e_, Nat.reduceAdd, Nat.reduceBEq] at b_
    subst b_
    clear h
    clear af
    rintro _ ol ⟨dj, ay, bo, bp, lp, lq, rfl, jn, jo, ax, ap, cy, cz, bi, af, -⟩
    replace hI := jo
    clear jo
    have h := ga dj ay jn
    clear ga jn
    replace ac := ac.up ap
    replace ad := ad.up ap
    replace ae := ae.up ap
    refine ex_ h fun l9 gl h => ?_
    refine W_seq_join [4] [] (fun vals_ w2 => ∃ (aq : sealskinref05_Disk) (cc : Option Addr) (cd : Nat) (ce : Option Addr) (cf : Nat) (cg : Option Addr) (ci : Nat) (a6 : sealskinref06_Journal) (bq : Option Addr) (br : Nat) (L H : Gh), vals_ = [] ∧ l9 aq a6 ∧ Inv [d0] G w L H w2 ∧ Le lp L ∧ Le lq H ∧ Tok H w2 d0 81 ([.slice cc aq.F_.e0_.length cd, .slice ce aq.F_.e1_.length cf, .slice cg aq.F_.e2_.length ci, vi aq.Room_, .bool aq.Off_, vi aq.Fuse_]) ∧ aq.F_.e0_.length ≤ cd ∧ Sl H cc aq.F_.e0_ ∧ aq.F_.e1_.length ≤ cf ∧ Sl H ce aq.F_.e1_ ∧ aq.F_.e2_.length ≤ ci ∧ Sl H cg aq.F_.e2_ ∧ Tok H w2 d8 73 ([.slice bq a6.L_.length br, .pointer (some ⟨d0, 0, none⟩), vi a6.Gen_, vi a6.File_]) ∧ a6.L_.length ≤ br ∧ Sl H bq a6.L_ ∧ True) (fun B_ b_ => ?_) (fun B_ b_ => ?_)
    ·
     simp only [e_, Nat.reduceAdd, Nat.reduceBEq] at b_
     subst b_
     clear gl
     have c5 := Le.refl lp
     have c6 := Le.refl lq
     refine W_seq_k fun K82 k82 => ?_
     refine W_region [151, 152] rfl (Ops_step (R_move rfl) rfl rfl (Ops_step (R_not rfl) rfl rfl ?_))
     refine Ops_nil ?_
     refine then_n (k82 _ _ ?_)
     clear k82 K82
     refine W_cond rfl (fun gm => ?_) (fun gm => ?_)
     ·
      replace h := h.1 gm
      refine W_seq_k fun K84 k84 => ?_
      refine W_region [153, 154, 21] rfl (Ops_step (R_move rfl) rfl rfl ?_)
      refine Ops_call (C_func bd33 rfl) rfl rfl ?_
      refine (sealskinref06_Journal_Check_ok (z0 := ay) (z1 := z0) hI.st (hg.up hI.le) af cj ac ck ad cl ae cy cz bi h).mono ?_
      rintro _ om ⟨lr, j2, gn, go, gp, dx, dy, dz, d5, d6, d7, oo, oq, rfl, jp, g8, e5, e8, eo, c9, da, db, dc, dd, de, h⟩
      refine Exists.elim (hI.call jp (memG bl (memO (by simp) memN))) fun mr g9 => ?_
      have ms := hI.size
      replace hI := g9.1
      have ec := g9.2.1
      have ls := g9.2.2
      clear g9
      replace ac := ac.up ec.hh
      replace ad := ad.up ec.hh
      replace ae := ae.up ec.hh
      replace bi := bi.up ec.hh
      replace c5 := c5.trans ec.ll
      replace c6 := c6.trans ec.hh
      clear cy
      clear af
      clear jp ec ls
      refine ⟨_, rfl, ?_⟩
      refine Ops_step (R_assign rfl) rfl rfl ?_
      refine Ops_nil ?_
      refine then_n (k84 _ _ ?_)
      clear k84 K84
      refine W_seq_k fun K86 k86 => ?_
      refine W_region [155, 156] rfl (Ops_step (R_move rfl) rfl rfl (Ops_step (R_neq rfl rfl) rfl rfl ?_))
      refine Ops_nil ?_
      refine then_n (k86 _ _ ?_)
      clear k86 K86
      refine W_keepB [4, 21, 156] fun B_ b_ => ?_
      simp only [e_, Nat.reduceAdd, Nat.reduceBEq] at b_
      subst b_
      refine W_if rfl (fun gq => ?_) (fun gq => ?_)
      ·
       replace h := h.1 gq
       refine W_seq_k fun K89 k89 => ?_
       refine W_region [157, 2, 3] rfl (Ops_step (R_move rfl) rfl rfl (Ops_step (R_assign rfl) rfl rfl (Ops_step (R_assign rfl) rfl rfl ?_)))
       refine Ops_nil ?_
       refine then_n (k89 _ _ ?_)
       clear k89 K89
       refine W_ret ?_
       refine then_ret ?_
       refine ⟨_, ⟨_, _, rfl, rfl, ⟨_, _, rfl, rfl, rfl⟩⟩, ?_⟩
       exact .inl ⟨lr, gp, dx, dy, dz, d5, d6, d7, _, _, rfl, hI, eo, c9, da, db, dc, dd, de, h⟩
      ·
       replace h := h.2 gq
       refine W_skip ?_
       refine then_n ?_
       exact ⟨_, rfl, ⟨gp, dx, dy, dz, d5, d6, d7, j2, gn, go, _, _, rfl, h, hI, c5, c6, eo, c9, da, db, dc, dd, de, g8, e5, e8, trivial⟩, ⟨rfl, trivial⟩⟩
     ·
      replace h := h.2 gm
      refine W_skip ?_
      refine then_n ?_
      exact ⟨_, rfl, ⟨z0, ba, bc, bd, be, bf, bg, ay, bo, bp, _, _, rfl, h, hI, c5, c6, af, cj, ac, ck, ad, cl, ae, cy, cz, bi, trivial⟩, ⟨rfl, trivial⟩⟩
    ·
     simp only [e_, Nat.reduceAdd, Nat.reduceBEq] at b_
     subst b_
     clear h
     rintro _ ot ⟨aq, cc, cd, ce, cf, cg, ci, a6, bq, br, ou, ov, rfl, jq, jr, c5, c6, ia, e9, fa, fb, fc, fd, fe, gr, ee, eg, -⟩
     replace hI := jr
     clear jr
     have h := gl aq a6 jq
     clear gl jq
     refine W_seq_k fun K90 k90 => ?_
     refine W_region [158, 2, 3] rfl (Ops_step (R_move rfl) rfl rfl (Ops_step (R_assign rfl) rfl rfl (Ops_step (R_assign rfl) rfl rfl ?_)))
     refine Ops_nil ?_
     refine then_n (k90 _ _ ?_)
     clear k90 K90
     refine W_ret ?_
     refine ⟨_, ⟨_, _, rfl, rfl, ⟨_, _, rfl, rfl, rfl⟩⟩, ?_⟩
     exact .inr ⟨0, aq, cc, cd, ce, cf, cg, ci, d8, a6, bq, br, _, _, rfl, hI, ia, e9, fa, fb, fc, fd, fe, bl, gr, ee, eg, h⟩

theorem bytes_Equal_ok {G : Gh} {w : World} (hS : St G w) (hg : GL G) {A0 : Option Addr} {c0 : Nat} {x0 : List UInt8} (hc0 : x0.length ≤ c0) (hs0 : Sl G A0 x0) {A1 : Option Addr} {c1 : Nat} {x1 : List UInt8} (hc1 : x1.length ≤ c1) (hs1 : Sl G A1 x1) {Q : Bool → Prop} (h : bytes_Equal x0 x1 Q) : Calls Try.prog 59 #[.slice A0 x0.length c0, .slice A1 x1.length c1] w fun e w2 => ∃ (r0 : Bool) (L H : Gh), e = .returned (.bool r0) ∧ Inv [] G w L H w2 ∧ Q r0 := by
 unfold bytes_Equal at h
 have hI := Inv.start (M := []) hS
 refine calls_W 10 Try.func59 rfl Try.ntmps59 rfl [.tmp 4] rfl ?_
 refine W_seq_k fun K1 k1 => ?_
 refine W_region [4] rfl (Ops_step (R_assign rfl) rfl rfl ?_)
 refine Ops_nil ?_
 refine then_n (k1 _ _ ?_)
 clear k1 K1
 refine W_seq_k fun K2 k2 => ?_
 refine W_region [5, 6, 7, 8, 9, 4] rfl (Ops_step (R_move rfl) rfl rfl ?_)
 refine Ops_step (X_bytesStr (bs := x0) Try.underlying29 Try.underlying5 Try.underlying9 rfl rfl (hs0.fz.rd hI.st)) rfl rfl ?_
 refine Ops_step (R_move rfl) rfl rfl ?_
 refine Ops_step (X_bytesStr (bs := x1) Try.underlying29 Try.underlying5 Try.underlying9 rfl rfl (hs1.fz.rd hI.st)) rfl rfl ?_
 refine Ops_step (R_strEqB rfl rfl) rfl rfl (Ops_step (R_assign rfl) rfl rfl ?_)
 refine Ops_nil ?_
 refine then_n (k2 _ _ ?_)
 clear k2 K2
 refine W_keepB [4] fun B_ b_ => ?_
 simp only [e_, Nat.reduceAdd, Nat.reduceBEq] at b_
 subst b_
 refine W_ret ?_
 refine ⟨_, ⟨_, _, rfl, rfl, rfl⟩, ?_⟩
 exact ⟨(decide ((Str.mk x0).b = (Str.mk x1).b)), _, _, rfl, hI, h⟩

theorem sealskinlaw06_face_ok {G : Gh} {w : World} (hS : St G w) (hg : GL G) {d0 : Nat} {z0 : disk_Disk} {ay : Option Addr} {az : Nat} {a4 : Option Addr} {a5 : Nat} {a6 : Option Addr} {a7 : Nat} (ak : Tok G w d0 53 ([.slice ay z0.files_.e0_.length az, .slice a4 z0.files_.e1_.length a5, .slice a6 z0.files_.e2_.length a7, vi z0.room_, .bool z0.off_, .bool z0.armed_, vi z0.left_])) (bz : z0.files_.e0_.length ≤ az) (aa : Sl G ay z0.files_.e0_) (b4 : z0.files_.e1_.length ≤ a5) (ab : Sl G a4 z0.files_.e1_) (b5 : z0.files_.e2_.length ≤ a7) (ac : Sl G a6 z0.files_.e2_) {d1 : Nat} {z1 : sealskinref05_Disk} {a8 : Option Addr} {a9 : Nat} {ba : Option Addr} {bc : Nat} {bd : Option Addr} {be : Nat} (al : Tok G w d1 81 ([.slice a8 z1.F_.e0_.length a9, .slice ba z1.F_.e1_.length bc, .slice bd z1.F_.e2_.length be, vi z1.Room_, .bool z1.Off_, vi z1.Fuse_])) (b6 : z1.F_.e0_.length ≤ a9) (ad : Sl G a8 z1.F_.e0_) (b7 : z1.F_.e1_.length ≤ bc) (ae : Sl G ba z1.F_.e1_) (b8 : z1.F_.e2_.length ≤ be) (af : Sl G bd z1.F_.e2_) {Q : Bool → Prop} (h : sealskinlaw06_face z0 z1 Q) : Calls Try.prog 29 #[.pointer (some ⟨d0, 0, none⟩), .pointer (some ⟨d1, 0, none⟩)] w fun e w2 => ∃ (r0 : Bool) (L H : Gh), e = .returned (.bool r0) ∧ Inv [] G w L H w2 ∧ Q r0 := by
 unfold sealskinlaw06_face at h
 have hI := Inv.start (M := []) hS
 refine calls_W 35 Try.func29 rfl Try.ntmps29 rfl [.tmp 4] rfl ?_
 have b9 := ak.blk.lt
 have ca := al.blk.lt
 refine W_seq_k fun K1 k1 => ?_
 refine W_region [4] rfl (Ops_step (R_assign rfl) rfl rfl ?_)
 refine Ops_nil ?_
 refine then_n (k1 _ _ ?_)
 clear k1 K1
 refine ex_ h fun da cb h => ?_
 refine W_seq_join [] [] (fun vals_ w2 => ∃  (L H : Gh), vals_ = [] ∧ da ∧ Inv [] G w L H w2 ∧ Le Gh.no L ∧ Le G H ∧ Tok H w2 d0 53 ([.slice ay z0.files_.e0_.length az, .slice a4 z0.files_.e1_.length a5, .slice a6 z0.files_.e2_.length a7, vi z0.room_, .bool z0.off_, .bool z0.armed_, vi z0.left_]) ∧ Tok H w2 d1 81 ([.slice a8 z1.F_.e0_.length a9, .slice ba z1.F_.e1_.length bc, .slice bd z1.F_.e2_.length be, vi z1.Room_, .bool z1.Off_, vi z1.Fuse_]) ∧ True) (fun B_ b_ => ?_) (fun B_ b_ => ?_)
 ·
  simp only [e_, Nat.reduceAdd, Nat.reduceBEq] at b_
  subst b_
  clear cb
  have aj := Le.refl Gh.no
  have ag := Le.refl G
  refine W_seq_k fun K3 k3 => ?_
  refine W_region [10] rfl (Ops_step (R_move rfl) rfl rfl ?_)
  refine Ops_nil ?_
  refine then_n (k3 _ _ ?_)
  clear k3 K3
  refine W_block ?_
  refine Exists.elim h fun db h => Exists.elim h fun dc h => ?_
  have c5 := h.1
  have ce := h.2
  clear h
  refine W_loopB [0, 1] [10] (fun m vals_ w2 => ∃ (av : Int) (L H : Gh), vals_ = [vi av] ∧ db m av ∧ Inv [] G w L H w2 ∧ Le Gh.no L ∧ Le G H ∧ Tok H w2 d0 53 ([.slice ay z0.files_.e0_.length az, .slice a4 z0.files_.e1_.length a5, .slice a6 z0.files_.e2_.length a7, vi z0.room_, .bool z0.off_, .bool z0.armed_, vi z0.left_]) ∧ Tok H w2 d1 81 ([.slice a8 z1.F_.e0_.length a9, .slice ba z1.F_.e1_.length bc, .slice bd z1.F_.e2_.length be, vi z1.Room_, .bool z1.Off_, vi z1.Fuse_]) ∧ True) dc _ rfl ⟨0, _, _, rfl, c5, hI, Le.refl _, Le.refl _, ak, al, trivial⟩ fun B_ b_ => ?_
  clear c5
  simp only [e_, Nat.reduceAdd, Nat.reduceBEq] at b_
  subst b_
  clear ak
  clear al
  rintro dd _ dt ⟨av, du, dv, rfl, cf, cg, am, ah, ak, al, -⟩
  replace hI := cg
  clear cg
  have h := ce dd av cf
  clear ce cf
  replace aa := aa.up ah
  replace ab := ab.up ah
  replace ac := ac.up ah
  replace ad := ad.up ah
  replace ae := ae.up ah
  replace af := af.up ah
  replace aj := aj.trans am
  replace ag := ag.trans ah
  refine W_seq_k fun K5 k5 => ?_
  refine W_region [11] rfl (Ops_step (R_lss rfl rfl) rfl rfl ?_)
  refine Ops_nil ?_
  refine then_n (k5 _ _ ?_)
  clear k5 K5
  refine W_seq_k fun K6 k6 => ?_
  refine W_if rfl (fun cc => ?_) (fun cc => ?_)
  ·
   replace h := h.1 cc
   refine W_skip ?_
   refine then_n (k6 _ _ ?_)
   clear k6 K6
   refine W_seq_k fun K8 k8 => ?_
   refine W_block ?_
   refine W_seq_k fun K9 k9 => ?_
   refine W_region [12, 5] rfl (Ops_step (R_move rfl) rfl rfl (Ops_step (R_assign rfl) rfl rfl ?_))
   refine Ops_nil ?_
   refine then_n (k9 _ _ ?_)
   clear k9 K9
   refine W_seq_k fun K10 k10 => ?_
   refine W_region [14, 15, 16, 13, 17, 18, 6, 7] rfl (Ops_step (R_move rfl) rfl rfl (Ops_step (R_move rfl) rfl rfl ?_))
   refine Ops_call (C_func bd44 rfl) rfl rfl ?_
   refine (disk_Disk_Read_ok (x1 := av) (z0 := z0) hI.st (hg.up hI.le) ak bz aa b4 ab b5 ac h).mono ?_
   rintro _ de ⟨ci, cj, bo, ck, df, dg, rfl, bp, ao, h⟩
   refine Exists.elim (hI.call bp (by simp)) fun c6 bl => ?_
   have cl := hI.size
   replace hI := bl.1
   have ar := bl.2.1
   have cm := bl.2.2
   clear bl
   replace aa := aa.up ar.hh
   replace ab := ab.up ar.hh
   replace ac := ac.up ar.hh
   replace ad := ad.up ar.hh
   replace ae := ae.up ar.hh
   replace af := af.up ar.hh
   replace aj := aj.trans ar.ll
   replace ag := ag.trans ar.hh
   replace ak := ak.up ar (by simp)
   replace al := al.up ar (by simp)
   replace am := am.trans ar.ll
   replace ah := ah.trans ar.hh
   replace ao := OwnS.backS ao cl (Le.refl _)
   clear bp ar cm
   refine ⟨_, rfl, ?_⟩
   refine Exists.elim (ao.freeze hI) fun dh bg => Exists.elim bg fun di bg => ?_
   replace hI := bg.1
   have au := bg.2.1
   have bf := bg.2.2.1 (Le.no _)
   have co := ao.cap
   replace aa := aa.up au.hh
   replace ab := ab.up au.hh
   replace ac := ac.up au.hh
   replace ad := ad.up au.hh
   replace ae := ae.up au.hh
   replace af := af.up au.hh
   replace aj := aj.trans au.ll
   replace ag := ag.trans au.hh
   replace ak := ak.up au (ao.old b9)
   replace al := al.up au (ao.old ca)
   replace am := am.trans au.ll
   replace ah := ah.trans au.hh
   clear bg au ao
   refine Ops_step (R_move rfl) rfl rfl ?_
   refine Ops_step (R_extract (v := .slice ci bo.length cj) rfl rfl) rfl rfl ?_
   refine Ops_step (R_extract (v := vi ck) rfl rfl) rfl rfl ?_
   refine Ops_step (R_assign rfl) rfl rfl (Ops_step (R_assign rfl) rfl rfl ?_)
   refine Ops_nil ?_
   refine then_n (k10 _ _ ?_)
   clear k10 K10
   refine W_keepB [0, 1, 5, 6, 7, 10] fun B_ b_ => ?_
   simp only [e_, Nat.reduceAdd, Nat.reduceBEq] at b_
   subst b_
   refine W_seq_k fun K14 k14 => ?_
   refine W_region [20, 21, 22, 19, 23, 24, 8, 9] rfl (Ops_step (R_move rfl) rfl rfl (Ops_step (R_move rfl) rfl rfl ?_))
   refine Ops_call (C_func bd55 rfl) rfl rfl ?_
   refine (sealskinref05_Disk_Read_ok (x1 := av) (z0 := z1) hI.st (hg.up hI.le) al b6 ad b7 ae b8 af h).mono ?_
   rintro _ dj ⟨cp, cq, bq, cr, dk, ct, rfl, br, cd, aw, h⟩
   refine Exists.elim (hI.call br (by simp)) fun bt bm => ?_
   have c7 := hI.size
   replace hI := bm.1
   have aq := bm.2.1
   have cu := bm.2.2
   clear bm
   replace aa := aa.up aq.hh
   replace ab := ab.up aq.hh
   replace ac := ac.up aq.hh
   replace ad := ad.up aq.hh
   replace ae := ae.up aq.hh
   replace af := af.up aq.hh
   replace aj := aj.trans aq.ll
   replace ag := ag.trans aq.hh
   replace ak := ak.up aq (by simp)
   replace al := al.up aq (by simp)
   replace am := am.trans aq.ll
   replace ah := ah.trans aq.hh
   replace bf := bf.up aq.ll
   replace aw := aw.up (Le.refl _)
   clear br aq cu
   refine ⟨_, rfl, ?_⟩
   refine Ops_step (R_move rfl) rfl rfl ?_
   refine Ops_step (R_extract (v := .slice cp bq.length cq) rfl rfl) rfl rfl ?_
   refine Ops_step (R_extract (v := vi cr) rfl rfl) rfl rfl ?_
   refine Ops_step (R_assign rfl) rfl rfl (Ops_step (R_assign rfl) rfl rfl ?_)
   refine Ops_nil ?_
   refine then_n (k14 _ _ ?_)
   clear k14 K14
   refine W_keepB [0, 1, 6, 7, 8, 9, 10] fun B_ b_ => ?_
   simp only [e_, Nat.reduceAdd, Nat.reduceBEq] at b_
   subst b_
   refine ex_ h fun cz bh h => ?_
   refine W_seq_join [0, 1, 10] [33] (fun vals_ w2 => ∃ (ax : Bool) (L H : Gh), vals_ = [.bool ax] ∧ cz ax ∧ Inv [] G w L H w2 ∧ Le bt L ∧ Le ct H ∧ Tok H w2 d0 53 ([.slice ay z0.files_.e0_.length az, .slice a4 z0.files_.e1_.length a5, .slice a6 z0.files_.e2_.length a7, vi z0.room_, .bool z0.off_, .bool z0.armed_, vi z0.left_]) ∧ Tok H w2 d1 81 ([.slice a8 z1.F_.e0_.length a9, .slice ba z1.F_.e1_.length bc, .slice bd z1.F_.e2_.length be, vi z1.Room_, .bool z1.Off_, vi z1.Fuse_]) ∧ True) (fun B_ b_ => ?_) (fun B_ b_ => ?_)
   ·
    simp only [e_, Nat.reduceAdd, Nat.reduceBEq] at b_
    subst b_
    clear bh
    have ap := Le.refl bt
    have ai := Le.refl ct
    refine W_region [25, 26, 27, 28, 29, 30, 31, 32, 33] rfl (Ops_step (R_move rfl) rfl rfl (Ops_step (R_move rfl) rfl rfl (Ops_step (R_neq rfl rfl) rfl rfl (Ops_step (R_move rfl) rfl rfl ?_))))
    refine Ops_split 28 rfl (fun bi => ?_) (fun bi => ?_)
    ·
     replace h := h.1 bi
     refine Ops_pass rfl rfl (Ops_pass rfl rfl (Ops_pass rfl rfl (Ops_pass rfl rfl (Ops_step (R_pick_true rfl rfl) rfl rfl ?_))))
     refine Ops_nil ?_
     refine then_n ?_
     exact ⟨_, rfl, ⟨true, _, _, rfl, h, hI, ap, ai, ak, al, trivial⟩, ⟨rfl, rfl, rfl, trivial⟩⟩
    ·
     replace h := h.2 bi
     refine Ops_step (R_move rfl) rfl rfl (Ops_step (R_move rfl) rfl rfl ?_)
     refine Ops_call (C_func bd59 rfl) rfl rfl ?_
     refine (bytes_Equal_ok (x0 := bo) (x1 := bq) hI.st (hg.up hI.le) co (bf.up hI.sub) cd aw h).mono ?_
     rintro _ dl ⟨cv, dm, dn, rfl, bu, h⟩
     refine Exists.elim (hI.call bu (by simp)) fun c8 bn => ?_
     have c9 := hI.size
     replace hI := bn.1
     have an := bn.2.1
     have cw := bn.2.2
     clear bn
     replace aa := aa.up an.hh
     replace ab := ab.up an.hh
     replace ac := ac.up an.hh
     replace ad := ad.up an.hh
     replace ae := ae.up an.hh
     replace af := af.up an.hh
     replace aj := aj.trans an.ll
     replace ag := ag.trans an.hh
     replace ak := ak.up an (by simp)
     replace al := al.up an (by simp)
     replace am := am.trans an.ll
     replace ah := ah.trans an.hh
     replace bf := bf.up an.ll
     replace aw := aw.up an.hh
     replace ap := ap.trans an.ll
     replace ai := ai.trans an.hh
     clear bu an cw
     refine ⟨_, rfl, ?_⟩
     refine Ops_step (R_not rfl) rfl rfl (Ops_step (R_pick_false rfl rfl) rfl rfl ?_)
     refine Ops_nil ?_
     refine then_n ?_
     exact ⟨_, rfl, ⟨(!cv), _, _, rfl, h, hI, ap, ai, ak, al, trivial⟩, ⟨rfl, rfl, rfl, trivial⟩⟩
   ·
    simp only [e_, Nat.reduceAdd, Nat.reduceBEq] at b_
    subst b_
    clear h
    clear ak
    clear al
    rintro _ dp ⟨ax, dq, dr, rfl, bv, bw, ap, ai, ak, al, -⟩
    replace hI := bw
    clear bw
    have h := bh ax bv
    clear bh bv
    replace aa := aa.up ai
    replace ab := ab.up ai
    replace ac := ac.up ai
    replace ad := ad.up ai
    replace ae := ae.up ai
    replace af := af.up ai
    replace aj := aj.trans ap
    replace ag := ag.trans ai
    replace am := am.trans ap
    replace ah := ah.trans ai
    refine W_cond rfl (fun bj => ?_) (fun bj => ?_)
    ·
     replace h := h.1 bj
     refine W_seq_k fun K21 k21 => ?_
     refine W_region [4] rfl (Ops_step (R_assign rfl) rfl rfl ?_)
     refine Ops_nil ?_
     refine then_n (k21 _ _ ?_)
     clear k21 K21
     refine W_ret ?_
     refine block_ret ?_
     refine then_ret ?_
     clear k8 K8
     refine then_ret ?_
     refine block_ret ?_
     refine then_ret ?_
     refine ⟨_, ⟨_, _, rfl, rfl, rfl⟩, ?_⟩
     exact ⟨false, _, _, rfl, hI, h⟩
    ·
     replace h := h.2 bj
     refine W_skip ?_
     refine block_n ?_
     refine then_n (k8 _ _ ?_)
     clear k8 K8
     refine W_region [34, 10] rfl ?_
     have bx := h.1
     replace h := h.2
     refine Ops_step (R_add rfl rfl (wI bx.1 bx.2)) rfl rfl (Ops_step (R_move rfl) rfl rfl ?_)
     refine Ops_nil ?_
     refine then_n ?_
     exact h.elim fun m_ h => ⟨m_, _, h.1, rfl, ⟨(av + 1), _, _, rfl, h.2, hI, am, ah, ak, al, trivial⟩, ⟨rfl, rfl, trivial⟩⟩
  ·
   replace h := h.2 cc
   refine W_exit ?_
   refine then_exit ?_
   clear k6 K6
   refine then_exit ?_
   refine block_exit ?_
   refine then_n ?_
   exact ⟨_, rfl, ⟨_, _, rfl, h, hI, aj, ag, ak, al, trivial⟩, trivial⟩
 ·
  simp only [e_, Nat.reduceAdd, Nat.reduceBEq] at b_
  subst b_
  clear h
  clear ak
  clear al
  rintro _ dw ⟨dx, dy, rfl, cx, cy, aj, ag, ak, al, -⟩
  replace hI := cy
  clear cy
  have h := cb cx
  clear cb cx
  replace aa := aa.up ag
  replace ab := ab.up ag
  replace ac := ac.up ag
  replace ad := ad.up ag
  replace ae := ae.up ag
  replace af := af.up ag
  refine W_seq_k fun K23 k23 => ?_
  refine W_region [4] rfl (Ops_step (R_assign rfl) rfl rfl ?_)
  refine Ops_nil ?_
  refine then_n (k23 _ _ ?_)
  clear k23 K23
  refine W_ret ?_
  refine ⟨_, ⟨_, _, rfl, rfl, rfl⟩, ?_⟩
  exact ⟨true, _, _, rfl, hI, h⟩

end Go.Proofs.Ytkmljjhjojolcaa

