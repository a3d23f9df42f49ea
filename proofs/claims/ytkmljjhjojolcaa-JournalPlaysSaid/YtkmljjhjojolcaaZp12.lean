/- What is shown of the program on the way to the law. -/
import Derived.Test.YtkmljjhjojolcaaZp3
import Derived.Test.YtkmljjhjojolcaaZp4
import Derived.Test.YtkmljjhjojolcaaZp11
import Derived.Test.YtkmljjhjojolcaaProg
set_option linter.unusedVariables false
set_option linter.unusedSimpArgs false
set_option maxHeartbeats 4000000
namespace Go.Proofs.Ytkmljjhjojolcaa
open Go Go.Sx Go.Lx
namespace TJtG
theorem hm : Try.prog.follows .mixedOrders = true := by kernel_rfl
theorem ag29 : aggB Try.prog 29 = some false := by kernel_rfl
theorem ag3 : aggB Try.prog 3 = some false := by kernel_rfl
theorem ag32 : aggB Try.prog 32 = some false := by kernel_rfl
theorem ag4 : aggB Try.prog 4 = some false := by kernel_rfl
theorem ag5 : aggB Try.prog 5 = some false := by kernel_rfl
theorem bd52 : bodied Try.prog 52 = true := by kernel_rfl
theorem bd53 : bodied Try.prog 53 = true := by kernel_rfl
theorem bd54 : bodied Try.prog 54 = true := by kernel_rfl
theorem bd88 : bodied Try.prog 88 = true := by kernel_rfl
theorem el29 : Elem Try.prog 29 5 1 1 := Elem.of (by kernel_rfl)
theorem fo113_0 : offB Try.prog 113 0 = some 0 := by kernel_rfl
theorem fo113_1 : offB Try.prog 113 1 = some 1 := by kernel_rfl
theorem fo113_2 : offB Try.prog 113 2 = some 2 := by kernel_rfl
theorem fo81_0 : offB Try.prog 81 0 = some 0 := by kernel_rfl
theorem fo81_1 : offB Try.prog 81 1 = some 3 := by kernel_rfl
theorem fo81_2 : offB Try.prog 81 2 = some 4 := by kernel_rfl
theorem sz29 : sz Try.prog 29 = some 1 := by kernel_rfl
theorem sz3 : sz Try.prog 3 = some 1 := by kernel_rfl
theorem sz32 : sz Try.prog 32 = some 1 := by kernel_rfl
theorem sz5 : sz Try.prog 5 = some 1 := by kernel_rfl
theorem zr5 : zr Try.prog 5 = some ([.int .u8 0]) := by kernel_rfl
end TJtG
open TJtG
theorem sealskinref05_Disk_Append_ok {G : Gh} {w : World} (hS : St G w) (hg : GL G) {d0 : Nat} {z0 : sealskinref05_Disk} {de : Option Addr} {df : Nat} {dg : Option Addr} {dh : Nat} {di : Option Addr} {dj : Nat} (ag : Tok G w d0 81 ([.slice de z0.F_.e0_.length df, .slice dg z0.F_.e1_.length dh, .slice di z0.F_.e2_.length dj, vi z0.Room_, .bool z0.Off_, vi z0.Fuse_])) (cl : z0.F_.e0_.length ≤ df) (ah : Sl G de z0.F_.e0_) (cm : z0.F_.e1_.length ≤ dh) (ai : Sl G dg z0.F_.e1_) (co : z0.F_.e2_.length ≤ dj) (aj : Sl G di z0.F_.e2_) {x1 : Int} {A2 : Option Addr} {c2 : Nat} {x2 : List UInt8} (hc2 : x2.length ≤ c2) (hs2 : Sl G A2 x2) {Q : Int → sealskinref05_Disk → Prop} (h : sealskinref05_Disk_Append z0 x1 x2 Q) : Calls Try.prog 27 #[.pointer (some ⟨d0, 0, none⟩), vi x1, .slice A2 x2.length c2] w fun e w2 => ∃ (r0 : Int) (y0 : sealskinref05_Disk) (js : Option Addr) (jt : Nat) (ju : Option Addr) (jv : Nat) (jw : Option Addr) (jx : Nat) (L H : Gh), e = .returned (vi r0) ∧ Inv [d0] G w L H w2 ∧ Tok H w2 d0 81 ([.slice js y0.F_.e0_.length jt, .slice ju y0.F_.e1_.length jv, .slice jw y0.F_.e2_.length jx, vi y0.Room_, .bool y0.Off_, vi y0.Fuse_]) ∧ y0.F_.e0_.length ≤ jt ∧ Sl H js y0.F_.e0_ ∧ y0.F_.e1_.length ≤ jv ∧ Sl H ju y0.F_.e1_ ∧ y0.F_.e2_.length ≤ jx ∧ Sl H jw y0.F_.e2_ ∧ Q r0 y0 := by
 unfold sealskinref05_Disk_Append at h
 have hI := Inv.start (M := [d0]) hS
 refine calls_W 62 Try.func27 rfl Try.ntmps27 rfl [.tmp 6] rfl ?_
 have ak := ag.blk.lt
 refine W_seq_k fun K1 k1 => ?_
 refine W_region [6] rfl (Ops_step (R_assign rfl) rfl rfl ?_)
 refine Ops_nil ?_
 refine then_n (k1 _ _ ?_)
 clear k1 K1
 refine W_seq_k fun K2 k2 => ?_
 refine W_seq_k fun K3 k3 => ?_
 refine W_region [11, 12, 13, 7] rfl (Ops_step (R_move rfl) rfl rfl (Ops_step (R_move rfl) rfl rfl ?_))
 refine Ops_call (C_func bd52 rfl) rfl rfl ?_
 refine (sealskinref05_Disk_may_ok (x1 := x1) (z0 := z0) hI.st (hg.up hI.le) ag cl ah cm ai co aj h).mono ?_
 rintro _ po ⟨mv, pp, pq, rfl, lw, h⟩
 refine Exists.elim (hI.call lw (by simp)) fun n9 mu => ?_
 have oa := hI.size
 replace hI := mu.1
 have lr := mu.2.1
 have mw := mu.2.2
 clear mu
 replace ah := ah.up lr.hh
 replace ai := ai.up lr.hh
 replace aj := aj.up lr.hh
 replace ag := ag.up lr (by simp)
 replace hs2 := hs2.up lr.hh
 clear lw lr mw
 refine ⟨_, rfl, ?_⟩
 refine Ops_step (R_assign rfl) rfl rfl ?_
 refine Ops_nil ?_
 refine then_n (k3 _ _ ?_)
 clear k3 K3
 refine W_seq_k fun K5 k5 => ?_
 refine W_region [14, 15] rfl (Ops_step (R_move rfl) rfl rfl (Ops_step (R_neq rfl rfl) rfl rfl ?_))
 refine Ops_nil ?_
 refine then_n (k5 _ _ ?_)
 clear k5 K5
 refine W_if rfl (fun kz => ?_) (fun kz => ?_)
 ·
  replace h := h.1 kz
  refine W_seq_k fun K7 k7 => ?_
  refine W_region [16, 6] rfl (Ops_step (R_move rfl) rfl rfl (Ops_step (R_assign rfl) rfl rfl ?_))
  refine Ops_nil ?_
  refine then_n (k7 _ _ ?_)
  clear k7 K7
  refine W_keepB [6] fun B_ b_ => ?_
  simp only [e_, Nat.reduceAdd, Nat.reduceBEq] at b_
  subst b_
  refine W_ret ?_
  refine then_ret ?_
  clear k2 K2
  refine ⟨_, ⟨_, _, rfl, rfl, rfl⟩, ?_⟩
  exact ⟨mv, z0, de, df, dg, dh, di, dj, _, _, rfl, hI, ag, cl, ah, cm, ai, co, aj, h⟩
 ·
  replace h := h.2 kz
  refine W_skip ?_
  refine then_n (k2 _ _ ?_)
  clear k2 K2
  refine W_keepB [0, 1, 2] fun B_ b_ => ?_
  simp only [e_, Nat.reduceAdd, Nat.reduceBEq] at b_
  subst b_
  refine W_seq_k fun K10 k10 => ?_
  refine W_seq_k fun K11 k11 => ?_
  refine W_drawF [17, 18, 19, 20, 21, 22, 23, 24, 25, 26] [(0, true), (2, true), (3, true), (5, true), (6, true), (7, true), (8, true), (1, false), (4, true), (9, true)] TJtG.hm rfl (by kernel_rfl) fun my ob fy g9 => ?_
  replace hI := hI.fr0 g9
  replace ag := ag.fr0 g9
  clear g9
  refine HSp (R_move rfl) rfl rfl (HSp (R_move rfl) rfl rfl (HSp (R_len Try.underlying29 rfl rfl) rfl rfl (HSp (R_move rfl) rfl rfl (HSp (R_nilCheck rfl) rfl rfl ?_))))
  refine HSp (R_fieldAddr fo81_1 rfl) rfl rfl ?_
  refine HS_loadB (v := vi z0.Room_) ag3 rfl ag.blk rfl rfl rfl ?_
  refine HS_call [8] _ rfl (by rw [fy]; kernel_rfl) (C_func bd53 rfl) rfl rfl ?_
  refine (sealskinref05_Disk_Used_ok (z0 := z0) hI.st (hg.up hI.le) ag cl ah cm ai co aj h).mono ?_
  rintro _ oc ⟨nv, od, d6, rfl, jy, h⟩
  refine Exists.elim (hI.call jy (by simp)) fun cw jj => ?_
  have nw := hI.size
  replace hI := jj.1
  have gh := jj.2.1
  have lx := jj.2.2
  clear jj
  replace ah := ah.up gh.hh
  replace ai := ai.up gh.hh
  replace aj := aj.up gh.hh
  replace ag := ag.up gh (by simp)
  replace hs2 := hs2.up gh.hh
  clear jy gh lx
  refine ⟨_, rfl, ⟨(ag.blk.at_ rfl), trivial⟩, ?_⟩
  have jz := h.1
  replace h := h.2
  refine HSp (R_add rfl rfl (wI jz.1 jz.2)) rfl rfl (HSp (R_gtr rfl rfl) rfl rfl ?_)
  refine HS_nil ?_
  clear fy
  refine then_n (k11 _ _ ?_)
  clear k11 K11
  refine W_keepB [0, 1, 2, 26] fun B_ b_ => ?_
  simp only [e_, Nat.reduceAdd, Nat.reduceBEq] at b_
  subst b_
  refine W_if rfl (fun ia => ?_) (fun ia => ?_)
  ·
   replace h := h.1 ia
   refine W_seq_k fun K17 k17 => ?_
   refine W_region [6] rfl (Ops_step (R_assign rfl) rfl rfl ?_)
   refine Ops_nil ?_
   refine then_n (k17 _ _ ?_)
   clear k17 K17
   refine W_ret ?_
   refine then_ret ?_
   clear k10 K10
   refine ⟨_, ⟨_, _, rfl, rfl, rfl⟩, ?_⟩
   exact ⟨7, z0, de, df, dg, dh, di, dj, _, _, rfl, hI, ag, cl, ah, cm, ai, co, aj, h⟩
  ·
   replace h := h.2 ia
   refine W_skip ?_
   refine then_n (k10 _ _ ?_)
   clear k10 K10
   refine W_seq_k fun K18 k18 => ?_
   refine W_region [27, 28, 29, 30, 31, 32, 33, 34, 8] rfl ?_
   refine Ops_to (R_buildSlice0 el29) rfl rfl ?_
   rintro _ oe ⟨mz, rfl, ly, j0, ib⟩
   have ar : OwnS w.heap.size 5 Gh.no d6 _ (some ⟨mz, 0, none⟩) 0 ([] : List UInt8) := OwnS.ofBlk hI.st ly j0 (all2_sc' _) rfl (by have := hI.size; omega) (by show 0 ≤ maxLen; decide)
   replace hI := hI.fr0 ib
   replace ag := ag.fr0 ib
   clear ib j0
   refine Ops_step (R_move rfl) rfl rfl (Ops_step (R_move rfl) rfl rfl (Ops_step (R_nilCheck rfl) rfl rfl (Ops_step (R_fieldAddr fo81_0 rfl) rfl rfl ?_)))
   have lz := h.1
   replace h := h.2
   refine split3 lz (fun bo => ?_) (fun bo => ?_) (fun bo => ?_)
   ·
    replace h := h.1 bo
    refine Ops_step (R_indexArrK Try.underlying51 sz29 rfl rfl bo (by decide)) rfl rfl ?_
    refine Ops_step (R_loadB (v := .slice de z0.F_.e0_.length df) ag29 rfl ag.blk rfl) rfl rfl ?_
    have l4 := h.1
    replace h := h.2
    refine Ops_to (X_append (α := UInt8) (xs := ([] : List UInt8)) (ys := z0.F_.e0_) el29 rfl rfl ar (Srcs.sc (Srcs.ofSl Try.underlying29 ah hI.st (by decide))) hI.st l4 (by decide) hI.size) rfl rfl ?_
    rintro _ og ⟨m0, m1, rfl, l5, ic, la⟩
    clear la
    replace hI := hI.tok ic ar.out (ar.new (Nat.le_refl _))
    replace ag := ag.fr ic (ar.old ak)
    clear ic ar
    refine Ops_step (R_assign rfl) rfl rfl ?_
    refine Ops_nil ?_
    refine then_n (k18 _ _ ?_)
    clear k18 K18
    refine W_keepB [0, 1, 2, 8] fun B_ b_ => ?_
    simp only [e_, Nat.reduceAdd, Nat.reduceBEq] at b_
    subst b_
    refine ex_ h fun m2 ie h => ?_
    refine W_seq_join [0, 1] [8] (fun vals_ w2 => ∃ (dk : List UInt8) (ea : Option Addr) (eb : Nat) (aa : sealskinref05_Disk) (dn : Option Addr) (dp : Nat) (ax : Option Addr) (ay : Nat) (az : Option Addr) (a4 : Nat) (L H : Gh), vals_ = [.slice ea dk.length eb] ∧ m2 dk aa ∧ Inv [d0] G w L H w2 ∧ Le cw L ∧ Le d6 H ∧ OwnS w.heap.size 5 Gh.no H w2 ea eb dk ∧ Tok H w2 d0 81 ([.slice dn aa.F_.e0_.length dp, .slice ax aa.F_.e1_.length ay, .slice az aa.F_.e2_.length a4, vi aa.Room_, .bool aa.Off_, vi aa.Fuse_]) ∧ aa.F_.e0_.length ≤ dp ∧ Sl H dn aa.F_.e0_ ∧ aa.F_.e1_.length ≤ ay ∧ Sl H ax aa.F_.e1_ ∧ aa.F_.e2_.length ≤ a4 ∧ Sl H az aa.F_.e2_ ∧ True) (fun B_ b_ => ?_) (fun B_ b_ => ?_)
    ·
     simp only [e_, Nat.reduceAdd, Nat.reduceBEq] at b_
     subst b_
     clear ie
     have cp := Le.refl cw
     have cq := Le.refl d6
     refine W_seq_k fun K25 k25 => ?_
     refine W_region [35, 36, 37] rfl (Ops_step (R_move rfl) rfl rfl (Ops_step (R_len Try.underlying29 rfl rfl) rfl rfl (Ops_step (R_move rfl) rfl rfl ?_)))
     refine Ops_nil ?_
     refine then_n (k25 _ _ ?_)
     clear k25 K25
     refine W_block ?_
     refine Exists.elim h fun m3 h => Exists.elim h fun m4 h => ?_
     have j1 := h.1
     have j2 := h.2
     clear h
     refine W_loopB [0, 1, 35, 36] [8, 37] (fun m vals_ w2 => ∃ (cx : List UInt8) (ec : Option Addr) (ee : Nat) (dq : Int) (ad : sealskinref05_Disk) (bp : Option Addr) (bq : Nat) (br : Option Addr) (bt : Nat) (bu : Option Addr) (bv : Nat) (L H : Gh), vals_ = [.slice ec cx.length ee, vi dq] ∧ m3 m cx dq ad ∧ Inv [d0] G w L H w2 ∧ Le cw L ∧ Le d6 H ∧ OwnS w.heap.size 5 Gh.no H w2 ec ee cx ∧ Tok H w2 d0 81 ([.slice bp ad.F_.e0_.length bq, .slice br ad.F_.e1_.length bt, .slice bu ad.F_.e2_.length bv, vi ad.Room_, .bool ad.Off_, vi ad.Fuse_]) ∧ ad.F_.e0_.length ≤ bq ∧ Sl H bp ad.F_.e0_ ∧ ad.F_.e1_.length ≤ bt ∧ Sl H br ad.F_.e1_ ∧ ad.F_.e2_.length ≤ bv ∧ Sl H bu ad.F_.e2_ ∧ True) m4 _ rfl ⟨(([] : List UInt8) ++ z0.F_.e0_), m0, m1, 0, z0, de, df, dg, dh, di, dj, _, _, rfl, j1, hI, Le.refl _, Le.refl _, l5, ag, cl, ah, cm, ai, co, aj, trivial⟩ fun B_ b_ => ?_
     clear j1
     simp only [e_, Nat.reduceAdd, Nat.reduceBEq] at b_
     subst b_
     rintro m5 _ oh ⟨cx, ec, ee, dq, ad, bp, bq, br, bt, bu, bv, ol, m6, rfl, j3, j4, fa, dr, au, al, c5, a5, c6, a6, c7, a7, -⟩
     replace hI := j4
     clear j4
     have h := j2 m5 cx dq ad j3
     clear j2 j3
     replace hs2 := hs2.up dr
     replace cp := cp.trans fa
     replace cq := cq.trans dr
     refine W_seq_k fun K27 k27 => ?_
     refine W_region [38] rfl (Ops_step (R_lss rfl rfl) rfl rfl ?_)
     refine Ops_nil ?_
     refine then_n (k27 _ _ ?_)
     clear k27 K27
     refine W_seq_k fun K28 k28 => ?_
     refine W_if rfl (fun ig => ?_) (fun ig => ?_)
     ·
      replace h := h.1 ig
      refine W_skip ?_
      refine then_n (k28 _ _ ?_)
      clear k28 K28
      refine W_seq_k fun K30 k30 => ?_
      refine W_block ?_
      refine W_seq_k fun K31 k31 => ?_
      refine W_region [39, 40, 10] rfl ?_
      refine ex_ h fun lb f0 h => ?_
      have l6 := (hs2.atS f0).1
      have l7 := (hs2.atS f0).2
      refine Ops_step (R_indexSl Try.underlying29 sz5 rfl rfl f0.1 f0.lt l6) rfl rfl (Ops_step (R_load ag5 rfl (hI.st _ _ l7)) rfl rfl (Ops_step (R_assign rfl) rfl rfl ?_))
      refine Ops_nil ?_
      refine then_n (k31 _ _ ?_)
      clear k31 K31
      refine W_seq_k fun K33 k33 => ?_
      refine W_seq_k fun K34 k34 => ?_
      refine W_region [41, 42, 43, 44] rfl (Ops_step (R_move rfl) rfl rfl (Ops_step (R_nilCheck rfl) rfl rfl (Ops_step (R_fieldAddr fo81_2 rfl) rfl rfl ?_)))
      refine Ops_step (R_loadB (v := .bool ad.Off_) ag4 rfl al.blk rfl) rfl rfl ?_
      refine Ops_nil ?_
      refine then_n (k34 _ _ ?_)
      clear k34 K34
      refine W_keepB [0, 1, 8, 10, 35, 36, 37, 44] fun B_ b_ => ?_
      simp only [e_, Nat.reduceAdd, Nat.reduceBEq] at b_
      subst b_
      refine W_cond rfl (fun ii => ?_) (fun ii => ?_)
      ·
       replace h := h.1 ii
       refine W_exit ?_
       refine then_exit ?_
       clear k33 K33
       refine block_other rfl ?_
       refine then_exit ?_
       clear k30 K30
       refine then_exit ?_
       refine block_exit ?_
       refine then_n ?_
       exact ⟨_, rfl, ⟨cx, ec, ee, ad, bp, bq, br, bt, bu, bv, _, _, rfl, h, hI, cp, cq, au, al, c5, a5, c6, a6, c7, a7, trivial⟩, ⟨rfl, rfl, trivial⟩⟩
      ·
       replace h := h.2 ii
       refine W_skip ?_
       refine then_n (k33 _ _ ?_)
       clear k33 K33
       refine W_seq_k fun K37 k37 => ?_
       refine W_region [45, 46, 47, 48, 8] rfl (Ops_step (R_move rfl) rfl rfl (Ops_step (R_move rfl) rfl rfl ?_))
       have fb := au.lt
       refine Ops_to (R_buildSlice el29 zr5 (by decide) (by decide) rfl rfl) rfl rfl ?_
       rintro _ om ⟨l8, rfl, l9, j5, f8⟩
       have ma : OwnS w.heap.size 5 Gh.no m6 _ (some ⟨l8, 0, none⟩) 1 ([lb] : List UInt8) := OwnS.ofBlk hI.st l9 j5 (all2_sc' _) rfl (by have := hI.size; omega) (by show 1 ≤ maxLen; decide)
       replace hI := hI.fr0 f8
       replace al := al.fr0 f8
       replace au := au.fr0 f8
       clear f8 j5
       have jk : ∀ i ∈ bk (some ⟨l8, 0, none⟩) 1, i ∉ bk ec ee := sep_new (fun i_ hi_ => by have := (bk_of hi_).1; simp only [blkOf, List.mem_singleton] at this; omega) fb
       have mb := h.1
       replace h := h.2
       refine Ops_to (X_append (α := UInt8) (xs := cx) (ys := ([lb] : List UInt8)) el29 rfl rfl au (Srcs.sc (Srcs.ofOwn Try.underlying29 ma (by decide))) hI.st mb (by decide) hI.size) rfl rfl ?_
       rintro _ oo ⟨m7, m8, rfl, f9, ij, lc⟩
       clear lc
       replace hI := hI.tok ij au.out (au.new (Nat.le_refl _))
       replace al := al.fr ij (au.old ak)
       clear ij au
       refine Ops_step (R_assign rfl) rfl rfl ?_
       refine Ops_nil ?_
       refine then_n (k37 _ _ ?_)
       clear k37 K37
       refine W_keepB [0, 1, 8, 35, 36, 37] fun B_ b_ => ?_
       simp only [e_, Nat.reduceAdd, Nat.reduceBEq] at b_
       subst b_
       refine W_region [49, 50] rfl (Ops_step (R_move rfl) rfl rfl ?_)
       refine Ops_call (C_func bd54 rfl) rfl rfl ?_
       refine (sealskinref05_Disk_burn_ok (z0 := ad) hI.st (hg.up hI.le) al c5 a5 c6 a6 c7 a7 h).mono ?_
       rintro _ oq ⟨ld, ik, il, im, io, ip, iq, ot, ou, rfl, j6, jl, gi, gj, gk, gl, gm, gn, h⟩
       refine Exists.elim (hI.call j6 (mem1 (by simp))) fun nx jm => ?_
       have ny := hI.size
       replace hI := jm.1
       have d7 := jm.2.1
       have mc := jm.2.2
       clear jm
       replace hs2 := hs2.up d7.hh
       replace cp := cp.trans d7.ll
       replace cq := cq.trans d7.hh
       replace a5 := a5.up d7.hh
       replace a6 := a6.up d7.hh
       replace a7 := a7.up d7.hh
       replace fa := fa.trans d7.ll
       replace dr := dr.trans d7.hh
       replace f9 := f9.up (Le.refl _) d7 (f9.oldt ak)
       clear al
       clear j6 d7 mc
       refine ⟨_, rfl, ?_⟩
       refine Ops_nil ?_
       refine block_n ?_
       refine then_n (k30 _ _ ?_)
       clear k30 K30
       refine W_region [51, 37] rfl ?_
       have j7 := h.1
       replace h := h.2
       refine Ops_step (R_add rfl rfl (wI j7.1 j7.2)) rfl rfl (Ops_step (R_move rfl) rfl rfl ?_)
       refine Ops_nil ?_
       refine then_n ?_
       exact h.elim fun m_ h => ⟨m_, _, h.1, rfl, ⟨(cx ++ ([lb] : List UInt8)), m7, m8, (dq + 1), ld, ik, il, im, io, ip, iq, _, _, rfl, h.2, hI, fa, dr, f9, jl, gi, gj, gk, gl, gm, gn, trivial⟩, ⟨rfl, rfl, rfl, rfl, trivial⟩⟩
     ·
      replace h := h.2 ig
      refine W_exit ?_
      refine then_exit ?_
      clear k28 K28
      refine then_exit ?_
      refine block_exit ?_
      refine then_n ?_
      exact ⟨_, rfl, ⟨cx, ec, ee, ad, bp, bq, br, bt, bu, bv, _, _, rfl, h, hI, cp, cq, au, al, c5, a5, c6, a6, c7, a7, trivial⟩, ⟨rfl, rfl, trivial⟩⟩
    ·
     simp only [e_, Nat.reduceAdd, Nat.reduceBEq] at b_
     subst b_
     clear h
     rintro _ ov ⟨dk, ea, eb, aa, dn, dp, ax, ay, az, a4, ow, ox, rfl, j8, j9, cp, cq, fc, am, ls, eg, eh, cd, ei, ce, -⟩
     replace hI := j9
     clear j9
     have h := ie dk aa j8
     clear ie j8
     refine W_seq_k fun K44 k44 => ?_
     refine W_region [52, 53, 54, 55, 56, 57, none] rfl (Ops_step (R_move rfl) rfl rfl (Ops_step (R_move rfl) rfl rfl (Ops_step (R_move rfl) rfl rfl (Ops_step (R_nilCheck rfl) rfl rfl ?_))))
     refine Ops_step (R_fieldAddr fo81_0 rfl) rfl rfl (Ops_step (R_indexArrK Try.underlying51 sz29 rfl rfl bo (by decide)) rfl rfl ?_)
     refine Exists.elim (fc.freeze hI) fun oy go => Exists.elim go fun m9 go => ?_
     replace hI := go.1
     have ir := go.2.1
     have ka := go.2.2.1 (Le.no _)
     have kb := fc.cap
     replace am := am.up ir (fc.old ak)
     replace eg := eg.up ir.hh
     replace cd := cd.up ir.hh
     replace ce := ce.up ir.hh
     clear go ir fc
     refine Ops_to0 (R_store sz29 rfl rfl am.blk (by show 0 < 6; decide) rfl) rfl ?_
     rintro _ oz ⟨kc, ke⟩
     replace hI := hI.tok ke (out1 am.out) (mem1 (by simp))
     replace am : Tok m9 _ d0 81 ([.slice ea dk.length eb, .slice ax aa.F_.e1_.length ay, .slice az aa.F_.e2_.length a4, vi aa.Room_, .bool aa.Off_, vi aa.Fuse_]) := ⟨kc, am.out⟩
     clear ke kc
     refine Ops_nil ?_
     refine then_n (k44 _ _ ?_)
     clear k44 K44
     refine W_keepB [0] fun B_ b_ => ?_
     simp only [e_, Nat.reduceAdd, Nat.reduceBEq] at b_
     subst b_
     refine W_seq_k fun K48 k48 => ?_
     refine W_seq_k fun K49 k49 => ?_
     refine W_region [58, 59, 60, 61] rfl (Ops_step (R_move rfl) rfl rfl (Ops_step (R_nilCheck rfl) rfl rfl (Ops_step (R_fieldAddr fo81_2 rfl) rfl rfl ?_)))
     refine Ops_step (R_loadB (v := .bool aa.Off_) ag4 rfl am.blk rfl) rfl rfl ?_
     refine Ops_nil ?_
     refine then_n (k49 _ _ ?_)
     clear k49 K49
     refine W_cond rfl (fun it => ?_) (fun it => ?_)
     ·
      replace h := h.1 it
      refine W_seq_k fun K51 k51 => ?_
      refine W_region [6] rfl (Ops_step (R_assign rfl) rfl rfl ?_)
      refine Ops_nil ?_
      refine then_n (k51 _ _ ?_)
      clear k51 K51
      refine W_ret ?_
      refine then_ret ?_
      clear k48 K48
      refine ⟨_, ⟨_, _, rfl, rfl, rfl⟩, ?_⟩
      exact ⟨50, (sealskinref05_Disk.mk (arr3_List_UInt8.mk dk aa.F_.e1_ aa.F_.e2_) aa.Room_ aa.Off_ aa.Fuse_), ea, eb, ax, ay, az, a4, _, _, rfl, hI, am, kb, (ka.up hI.sub), eh, cd, ei, ce, h⟩
     ·
      replace h := h.2 it
      refine W_skip ?_
      refine then_n (k48 _ _ ?_)
      clear k48 K48
      refine W_seq_k fun K52 k52 => ?_
      refine W_region [6] rfl (Ops_step (R_assign rfl) rfl rfl ?_)
      refine Ops_nil ?_
      refine then_n (k52 _ _ ?_)
      clear k52 K52
      refine W_ret ?_
      refine ⟨_, ⟨_, _, rfl, rfl, rfl⟩, ?_⟩
      exact ⟨0, (sealskinref05_Disk.mk (arr3_List_UInt8.mk dk aa.F_.e1_ aa.F_.e2_) aa.Room_ aa.Off_ aa.Fuse_), ea, eb, ax, ay, az, a4, _, _, rfl, hI, am, kb, (ka.up hI.sub), eh, cd, ei, ce, h⟩
   ·
    replace h := h.2.1 bo
    refine Ops_step (R_indexArrK Try.underlying51 sz29 rfl rfl bo (by decide)) rfl rfl ?_
    refine Ops_step (R_loadB (v := .slice dg z0.F_.e1_.length dh) ag29 rfl ag.blk rfl) rfl rfl ?_
    have md := h.1
    replace h := h.2
    refine Ops_to (X_append (α := UInt8) (xs := ([] : List UInt8)) (ys := z0.F_.e1_) el29 rfl rfl ar (Srcs.sc (Srcs.ofSl Try.underlying29 ai hI.st (by decide))) hI.st md (by decide) hI.size) rfl rfl ?_
    rintro _ o4 ⟨na, nb, rfl, me, iu, lf⟩
    clear lf
    replace hI := hI.tok iu ar.out (ar.new (Nat.le_refl _))
    replace ag := ag.fr iu (ar.old ak)
    clear iu ar
    refine Ops_step (R_assign rfl) rfl rfl ?_
    refine Ops_nil ?_
    refine then_n (k18 _ _ ?_)
    clear k18 K18
    refine W_keepB [0, 1, 2, 8] fun B_ b_ => ?_
    simp only [e_, Nat.reduceAdd, Nat.reduceBEq] at b_
    subst b_
    refine ex_ h fun nc iv h => ?_
    refine W_seq_join [0, 1] [8] (fun vals_ w2 => ∃ (dl : List UInt8) (ej : Option Addr) (ek : Nat) (ab : sealskinref05_Disk) (a8 : Option Addr) (a9 : Nat) (dt : Option Addr) (du : Nat) (ba : Option Addr) (bc : Nat) (L H : Gh), vals_ = [.slice ej dl.length ek] ∧ nc dl ab ∧ Inv [d0] G w L H w2 ∧ Le cw L ∧ Le d6 H ∧ OwnS w.heap.size 5 Gh.no H w2 ej ek dl ∧ Tok H w2 d0 81 ([.slice a8 ab.F_.e0_.length a9, .slice dt ab.F_.e1_.length du, .slice ba ab.F_.e2_.length bc, vi ab.Room_, .bool ab.Off_, vi ab.Fuse_]) ∧ ab.F_.e0_.length ≤ a9 ∧ Sl H a8 ab.F_.e0_ ∧ ab.F_.e1_.length ≤ du ∧ Sl H dt ab.F_.e1_ ∧ ab.F_.e2_.length ≤ bc ∧ Sl H ba ab.F_.e2_ ∧ True) (fun B_ b_ => ?_) (fun B_ b_ => ?_)
    ·
     simp only [e_, Nat.reduceAdd, Nat.reduceBEq] at b_
     subst b_
     clear iv
     have cr := Le.refl cw
     have ct := Le.refl d6
     refine W_seq_k fun K57 k57 => ?_
     refine W_region [35, 36, 37] rfl (Ops_step (R_move rfl) rfl rfl (Ops_step (R_len Try.underlying29 rfl rfl) rfl rfl (Ops_step (R_move rfl) rfl rfl ?_)))
     refine Ops_nil ?_
     refine then_n (k57 _ _ ?_)
     clear k57 K57
     refine W_block ?_
     refine Exists.elim h fun nd h => Exists.elim h fun nf h => ?_
     have j1 := h.1
     have kf := h.2
     clear h
     refine W_loopB [0, 1, 35, 36] [8, 37] (fun m vals_ w2 => ∃ (cy : List UInt8) (en : Option Addr) (eo : Nat) (dv : Int) (ae : sealskinref05_Disk) (bw : Option Addr) (bx : Nat) (bz : Option Addr) (b4 : Nat) (b5 : Option Addr) (b6 : Nat) (L H : Gh), vals_ = [.slice en cy.length eo, vi dv] ∧ nd m cy dv ae ∧ Inv [d0] G w L H w2 ∧ Le cw L ∧ Le d6 H ∧ OwnS w.heap.size 5 Gh.no H w2 en eo cy ∧ Tok H w2 d0 81 ([.slice bw ae.F_.e0_.length bx, .slice bz ae.F_.e1_.length b4, .slice b5 ae.F_.e2_.length b6, vi ae.Room_, .bool ae.Off_, vi ae.Fuse_]) ∧ ae.F_.e0_.length ≤ bx ∧ Sl H bw ae.F_.e0_ ∧ ae.F_.e1_.length ≤ b4 ∧ Sl H bz ae.F_.e1_ ∧ ae.F_.e2_.length ≤ b6 ∧ Sl H b5 ae.F_.e2_ ∧ True) nf _ rfl ⟨(([] : List UInt8) ++ z0.F_.e1_), na, nb, 0, z0, de, df, dg, dh, di, dj, _, _, rfl, j1, hI, Le.refl _, Le.refl _, me, ag, cl, ah, cm, ai, co, aj, trivial⟩ fun B_ b_ => ?_
     clear j1
     simp only [e_, Nat.reduceAdd, Nat.reduceBEq] at b_
     subst b_
     rintro ng _ o5 ⟨cy, en, eo, dv, ae, bw, bx, bz, b4, b5, b6, o6, nh, rfl, kg, kh, fd, dw, av, an, c8, bd, c9, be, da, bf, -⟩
     replace hI := kh
     clear kh
     have h := kf ng cy dv ae kg
     clear kf kg
     replace hs2 := hs2.up dw
     replace cr := cr.trans fd
     replace ct := ct.trans dw
     refine W_seq_k fun K59 k59 => ?_
     refine W_region [38] rfl (Ops_step (R_lss rfl rfl) rfl rfl ?_)
     refine Ops_nil ?_
     refine then_n (k59 _ _ ?_)
     clear k59 K59
     refine W_seq_k fun K60 k60 => ?_
     refine W_if rfl (fun iw => ?_) (fun iw => ?_)
     ·
      replace h := h.1 iw
      refine W_skip ?_
      refine then_n (k60 _ _ ?_)
      clear k60 K60
      refine W_seq_k fun K62 k62 => ?_
      refine W_block ?_
      refine W_seq_k fun K63 k63 => ?_
      refine W_region [39, 40, 10] rfl ?_
      refine ex_ h fun lg ga h => ?_
      have mf := (hs2.atS ga).1
      have mg := (hs2.atS ga).2
      refine Ops_step (R_indexSl Try.underlying29 sz5 rfl rfl ga.1 ga.lt mf) rfl rfl (Ops_step (R_load ag5 rfl (hI.st _ _ mg)) rfl rfl (Ops_step (R_assign rfl) rfl rfl ?_))
      refine Ops_nil ?_
      refine then_n (k63 _ _ ?_)
      clear k63 K63
      refine W_seq_k fun K65 k65 => ?_
      refine W_seq_k fun K66 k66 => ?_
      refine W_region [41, 42, 43, 44] rfl (Ops_step (R_move rfl) rfl rfl (Ops_step (R_nilCheck rfl) rfl rfl (Ops_step (R_fieldAddr fo81_2 rfl) rfl rfl ?_)))
      refine Ops_step (R_loadB (v := .bool ae.Off_) ag4 rfl an.blk rfl) rfl rfl ?_
      refine Ops_nil ?_
      refine then_n (k66 _ _ ?_)
      clear k66 K66
      refine W_keepB [0, 1, 8, 10, 35, 36, 37, 44] fun B_ b_ => ?_
      simp only [e_, Nat.reduceAdd, Nat.reduceBEq] at b_
      subst b_
      refine W_cond rfl (fun ix => ?_) (fun ix => ?_)
      ·
       replace h := h.1 ix
       refine W_exit ?_
       refine then_exit ?_
       clear k65 K65
       refine block_other rfl ?_
       refine then_exit ?_
       clear k62 K62
       refine then_exit ?_
       refine block_exit ?_
       refine then_n ?_
       exact ⟨_, rfl, ⟨cy, en, eo, ae, bw, bx, bz, b4, b5, b6, _, _, rfl, h, hI, cr, ct, av, an, c8, bd, c9, be, da, bf, trivial⟩, ⟨rfl, rfl, trivial⟩⟩
      ·
       replace h := h.2 ix
       refine W_skip ?_
       refine then_n (k65 _ _ ?_)
       clear k65 K65
       refine W_seq_k fun K69 k69 => ?_
       refine W_region [45, 46, 47, 48, 8] rfl (Ops_step (R_move rfl) rfl rfl (Ops_step (R_move rfl) rfl rfl ?_))
       have fe := av.lt
       refine Ops_to (R_buildSlice el29 zr5 (by decide) (by decide) rfl rfl) rfl rfl ?_
       rintro _ o7 ⟨mh, rfl, mi, ki, gb⟩
       have mj : OwnS w.heap.size 5 Gh.no nh _ (some ⟨mh, 0, none⟩) 1 ([lg] : List UInt8) := OwnS.ofBlk hI.st mi ki (all2_sc' _) rfl (by have := hI.size; omega) (by show 1 ≤ maxLen; decide)
       replace hI := hI.fr0 gb
       replace an := an.fr0 gb
       replace av := av.fr0 gb
       clear gb ki
       have jn : ∀ i ∈ bk (some ⟨mh, 0, none⟩) 1, i ∉ bk en eo := sep_new (fun i_ hi_ => by have := (bk_of hi_).1; simp only [blkOf, List.mem_singleton] at this; omega) fe
       have ml := h.1
       replace h := h.2
       refine Ops_to (X_append (α := UInt8) (xs := cy) (ys := ([lg] : List UInt8)) el29 rfl rfl av (Srcs.sc (Srcs.ofOwn Try.underlying29 mj (by decide))) hI.st ml (by decide) hI.size) rfl rfl ?_
       rintro _ o8 ⟨ni, nj, rfl, gc, iy, lh⟩
       clear lh
       replace hI := hI.tok iy av.out (av.new (Nat.le_refl _))
       replace an := an.fr iy (av.old ak)
       clear iy av
       refine Ops_step (R_assign rfl) rfl rfl ?_
       refine Ops_nil ?_
       refine then_n (k69 _ _ ?_)
       clear k69 K69
       refine W_keepB [0, 1, 8, 35, 36, 37] fun B_ b_ => ?_
       simp only [e_, Nat.reduceAdd, Nat.reduceBEq] at b_
       subst b_
       refine W_region [49, 50] rfl (Ops_step (R_move rfl) rfl rfl ?_)
       refine Ops_call (C_func bd54 rfl) rfl rfl ?_
       refine (sealskinref05_Disk_burn_ok (z0 := ae) hI.st (hg.up hI.le) an c8 bd c9 be da bf h).mono ?_
       rintro _ o9 ⟨li, iz, i0, i1, i2, i3, i4, pa, pb, rfl, kj, jo, gp, gq, gr, gt, gu, gv, h⟩
       refine Exists.elim (hI.call kj (mem1 (by simp))) fun nz jp => ?_
       have n0 := hI.size
       replace hI := jp.1
       have d8 := jp.2.1
       have mm := jp.2.2
       clear jp
       replace hs2 := hs2.up d8.hh
       replace cr := cr.trans d8.ll
       replace ct := ct.trans d8.hh
       replace bd := bd.up d8.hh
       replace be := be.up d8.hh
       replace bf := bf.up d8.hh
       replace fd := fd.trans d8.ll
       replace dw := dw.trans d8.hh
       replace gc := gc.up (Le.refl _) d8 (gc.oldt ak)
       clear an
       clear kj d8 mm
       refine ⟨_, rfl, ?_⟩
       refine Ops_nil ?_
       refine block_n ?_
       refine then_n (k62 _ _ ?_)
       clear k62 K62
       refine W_region [51, 37] rfl ?_
       have kk := h.1
       replace h := h.2
       refine Ops_step (R_add rfl rfl (wI kk.1 kk.2)) rfl rfl (Ops_step (R_move rfl) rfl rfl ?_)
       refine Ops_nil ?_
       refine then_n ?_
       exact h.elim fun m_ h => ⟨m_, _, h.1, rfl, ⟨(cy ++ ([lg] : List UInt8)), ni, nj, (dv + 1), li, iz, i0, i1, i2, i3, i4, _, _, rfl, h.2, hI, fd, dw, gc, jo, gp, gq, gr, gt, gu, gv, trivial⟩, ⟨rfl, rfl, rfl, rfl, trivial⟩⟩
     ·
      replace h := h.2 iw
      refine W_exit ?_
      refine then_exit ?_
      clear k60 K60
      refine then_exit ?_
      refine block_exit ?_
      refine then_n ?_
      exact ⟨_, rfl, ⟨cy, en, eo, ae, bw, bx, bz, b4, b5, b6, _, _, rfl, h, hI, cr, ct, av, an, c8, bd, c9, be, da, bf, trivial⟩, ⟨rfl, rfl, trivial⟩⟩
    ·
     simp only [e_, Nat.reduceAdd, Nat.reduceBEq] at b_
     subst b_
     clear h
     rintro _ pc ⟨dl, ej, ek, ab, a8, a9, dt, du, ba, bc, pd, pe, rfl, kl, km, cr, ct, ff, ao, ep, cf, lu, eq, et, cg, -⟩
     replace hI := km
     clear km
     have h := iv dl ab kl
     clear iv kl
     refine W_seq_k fun K76 k76 => ?_
     refine W_region [52, 53, 54, 55, 56, 57, none] rfl (Ops_step (R_move rfl) rfl rfl (Ops_step (R_move rfl) rfl rfl (Ops_step (R_move rfl) rfl rfl (Ops_step (R_nilCheck rfl) rfl rfl ?_))))
     refine Ops_step (R_fieldAddr fo81_0 rfl) rfl rfl (Ops_step (R_indexArrK Try.underlying51 sz29 rfl rfl bo (by decide)) rfl rfl ?_)
     refine Exists.elim (ff.freeze hI) fun pf gw => Exists.elim gw fun nk gw => ?_
     replace hI := gw.1
     have i5 := gw.2.1
     have ko := gw.2.2.1 (Le.no _)
     have kp := ff.cap
     replace ao := ao.up i5 (ff.old ak)
     replace cf := cf.up i5.hh
     replace eq := eq.up i5.hh
     replace cg := cg.up i5.hh
     clear gw i5 ff
     refine Ops_to0 (R_store sz29 rfl rfl ao.blk (by show 1 < 6; decide) rfl) rfl ?_
     rintro _ pg ⟨kq, kr⟩
     replace hI := hI.tok kr (out1 ao.out) (mem1 (by simp))
     replace ao : Tok nk _ d0 81 ([.slice a8 ab.F_.e0_.length a9, .slice ej dl.length ek, .slice ba ab.F_.e2_.length bc, vi ab.Room_, .bool ab.Off_, vi ab.Fuse_]) := ⟨kq, ao.out⟩
     clear kr kq
     refine Ops_nil ?_
     refine then_n (k76 _ _ ?_)
     clear k76 K76
     refine W_keepB [0] fun B_ b_ => ?_
     simp only [e_, Nat.reduceAdd, Nat.reduceBEq] at b_
     subst b_
     refine W_seq_k fun K80 k80 => ?_
     refine W_seq_k fun K81 k81 => ?_
     refine W_region [58, 59, 60, 61] rfl (Ops_step (R_move rfl) rfl rfl (Ops_step (R_nilCheck rfl) rfl rfl (Ops_step (R_fieldAddr fo81_2 rfl) rfl rfl ?_)))
     refine Ops_step (R_loadB (v := .bool ab.Off_) ag4 rfl ao.blk rfl) rfl rfl ?_
     refine Ops_nil ?_
     refine then_n (k81 _ _ ?_)
     clear k81 K81
     refine W_cond rfl (fun i6 => ?_) (fun i6 => ?_)
     ·
      replace h := h.1 i6
      refine W_seq_k fun K83 k83 => ?_
      refine W_region [6] rfl (Ops_step (R_assign rfl) rfl rfl ?_)
      refine Ops_nil ?_
      refine then_n (k83 _ _ ?_)
      clear k83 K83
      refine W_ret ?_
      refine then_ret ?_
      clear k80 K80
      refine ⟨_, ⟨_, _, rfl, rfl, rfl⟩, ?_⟩
      exact ⟨50, (sealskinref05_Disk.mk (arr3_List_UInt8.mk ab.F_.e0_ dl ab.F_.e2_) ab.Room_ ab.Off_ ab.Fuse_), a8, a9, ej, ek, ba, bc, _, _, rfl, hI, ao, ep, cf, kp, (ko.up hI.sub), et, cg, h⟩
     ·
      replace h := h.2 i6
      refine W_skip ?_
      refine then_n (k80 _ _ ?_)
      clear k80 K80
      refine W_seq_k fun K84 k84 => ?_
      refine W_region [6] rfl (Ops_step (R_assign rfl) rfl rfl ?_)
      refine Ops_nil ?_
      refine then_n (k84 _ _ ?_)
      clear k84 K84
      refine W_ret ?_
      refine ⟨_, ⟨_, _, rfl, rfl, rfl⟩, ?_⟩
      exact ⟨0, (sealskinref05_Disk.mk (arr3_List_UInt8.mk ab.F_.e0_ dl ab.F_.e2_) ab.Room_ ab.Off_ ab.Fuse_), a8, a9, ej, ek, ba, bc, _, _, rfl, hI, ao, ep, cf, kp, (ko.up hI.sub), et, cg, h⟩
   ·
    replace h := h.2.2 bo
    refine Ops_step (R_indexArrK Try.underlying51 sz29 rfl rfl bo (by decide)) rfl rfl ?_
    refine Ops_step (R_loadB (v := .slice di z0.F_.e2_.length dj) ag29 rfl ag.blk rfl) rfl rfl ?_
    have mn := h.1
    replace h := h.2
    refine Ops_to (X_append (α := UInt8) (xs := ([] : List UInt8)) (ys := z0.F_.e2_) el29 rfl rfl ar (Srcs.sc (Srcs.ofSl Try.underlying29 aj hI.st (by decide))) hI.st mn (by decide) hI.size) rfl rfl ?_
    rintro _ ph ⟨nl, nm, rfl, mo, i7, lj⟩
    clear lj
    replace hI := hI.tok i7 ar.out (ar.new (Nat.le_refl _))
    replace ag := ag.fr i7 (ar.old ak)
    clear i7 ar
    refine Ops_step (R_assign rfl) rfl rfl ?_
    refine Ops_nil ?_
    refine then_n (k18 _ _ ?_)
    clear k18 K18
    refine W_keepB [0, 1, 2, 8] fun B_ b_ => ?_
    simp only [e_, Nat.reduceAdd, Nat.reduceBEq] at b_
    subst b_
    refine ex_ h fun nn i8 h => ?_
    refine W_seq_join [0, 1] [8] (fun vals_ w2 => ∃ (dm : List UInt8) (eu : Option Addr) (ew : Nat) (ac : sealskinref05_Disk) (bg : Option Addr) (bh : Nat) (bi : Option Addr) (bj : Nat) (dx : Option Addr) (dy : Nat) (L H : Gh), vals_ = [.slice eu dm.length ew] ∧ nn dm ac ∧ Inv [d0] G w L H w2 ∧ Le cw L ∧ Le d6 H ∧ OwnS w.heap.size 5 Gh.no H w2 eu ew dm ∧ Tok H w2 d0 81 ([.slice bg ac.F_.e0_.length bh, .slice bi ac.F_.e1_.length bj, .slice dx ac.F_.e2_.length dy, vi ac.Room_, .bool ac.Off_, vi ac.Fuse_]) ∧ ac.F_.e0_.length ≤ bh ∧ Sl H bg ac.F_.e0_ ∧ ac.F_.e1_.length ≤ bj ∧ Sl H bi ac.F_.e1_ ∧ ac.F_.e2_.length ≤ dy ∧ Sl H dx ac.F_.e2_ ∧ True) (fun B_ b_ => ?_) (fun B_ b_ => ?_)
    ·
     simp only [e_, Nat.reduceAdd, Nat.reduceBEq] at b_
     subst b_
     clear i8
     have cu := Le.refl cw
     have cv := Le.refl d6
     refine W_seq_k fun K89 k89 => ?_
     refine W_region [35, 36, 37] rfl (Ops_step (R_move rfl) rfl rfl (Ops_step (R_len Try.underlying29 rfl rfl) rfl rfl (Ops_step (R_move rfl) rfl rfl ?_)))
     refine Ops_nil ?_
     refine then_n (k89 _ _ ?_)
     clear k89 K89
     refine W_block ?_
     refine Exists.elim h fun np h => Exists.elim h fun nq h => ?_
     have j1 := h.1
     have kt := h.2
     clear h
     refine W_loopB [0, 1, 35, 36] [8, 37] (fun m vals_ w2 => ∃ (cz : List UInt8) (ex : Option Addr) (ey : Nat) (dz : Int) (af : sealskinref05_Disk) (b7 : Option Addr) (b8 : Nat) (b9 : Option Addr) (ca : Nat) (cb : Option Addr) (cc : Nat) (L H : Gh), vals_ = [.slice ex cz.length ey, vi dz] ∧ np m cz dz af ∧ Inv [d0] G w L H w2 ∧ Le cw L ∧ Le d6 H ∧ OwnS w.heap.size 5 Gh.no H w2 ex ey cz ∧ Tok H w2 d0 81 ([.slice b7 af.F_.e0_.length b8, .slice b9 af.F_.e1_.length ca, .slice cb af.F_.e2_.length cc, vi af.Room_, .bool af.Off_, vi af.Fuse_]) ∧ af.F_.e0_.length ≤ b8 ∧ Sl H b7 af.F_.e0_ ∧ af.F_.e1_.length ≤ ca ∧ Sl H b9 af.F_.e1_ ∧ af.F_.e2_.length ≤ cc ∧ Sl H cb af.F_.e2_ ∧ True) nq _ rfl ⟨(([] : List UInt8) ++ z0.F_.e2_), nl, nm, 0, z0, de, df, dg, dh, di, dj, _, _, rfl, j1, hI, Le.refl _, Le.refl _, mo, ag, cl, ah, cm, ai, co, aj, trivial⟩ fun B_ b_ => ?_
     clear j1
     simp only [e_, Nat.reduceAdd, Nat.reduceBEq] at b_
     subst b_
     rintro nr _ pi ⟨cz, ex, ey, dz, af, b7, b8, b9, ca, cb, cc, pj, ns, rfl, ku, kv, fg, d5, aw, ap, db, bl, dc, bm, dd, bn, -⟩
     replace hI := kv
     clear kv
     have h := kt nr cz dz af ku
     clear kt ku
     replace hs2 := hs2.up d5
     replace cu := cu.trans fg
     replace cv := cv.trans d5
     refine W_seq_k fun K91 k91 => ?_
     refine W_region [38] rfl (Ops_step (R_lss rfl rfl) rfl rfl ?_)
     refine Ops_nil ?_
     refine then_n (k91 _ _ ?_)
     clear k91 K91
     refine W_seq_k fun K92 k92 => ?_
     refine W_if rfl (fun i9 => ?_) (fun i9 => ?_)
     ·
      replace h := h.1 i9
      refine W_skip ?_
      refine then_n (k92 _ _ ?_)
      clear k92 K92
      refine W_seq_k fun K94 k94 => ?_
      refine W_block ?_
      refine W_seq_k fun K95 k95 => ?_
      refine W_region [39, 40, 10] rfl ?_
      refine ex_ h fun lk gf h => ?_
      have mp := (hs2.atS gf).1
      have mq := (hs2.atS gf).2
      refine Ops_step (R_indexSl Try.underlying29 sz5 rfl rfl gf.1 gf.lt mp) rfl rfl (Ops_step (R_load ag5 rfl (hI.st _ _ mq)) rfl rfl (Ops_step (R_assign rfl) rfl rfl ?_))
      refine Ops_nil ?_
      refine then_n (k95 _ _ ?_)
      clear k95 K95
      refine W_seq_k fun K97 k97 => ?_
      refine W_seq_k fun K98 k98 => ?_
      refine W_region [41, 42, 43, 44] rfl (Ops_step (R_move rfl) rfl rfl (Ops_step (R_nilCheck rfl) rfl rfl (Ops_step (R_fieldAddr fo81_2 rfl) rfl rfl ?_)))
      refine Ops_step (R_loadB (v := .bool af.Off_) ag4 rfl ap.blk rfl) rfl rfl ?_
      refine Ops_nil ?_
      refine then_n (k98 _ _ ?_)
      clear k98 K98
      refine W_keepB [0, 1, 8, 10, 35, 36, 37, 44] fun B_ b_ => ?_
      simp only [e_, Nat.reduceAdd, Nat.reduceBEq] at b_
      subst b_
      refine W_cond rfl (fun fm => ?_) (fun fm => ?_)
      ·
       replace h := h.1 fm
       refine W_exit ?_
       refine then_exit ?_
       clear k97 K97
       refine block_other rfl ?_
       refine then_exit ?_
       clear k94 K94
       refine then_exit ?_
       refine block_exit ?_
       refine then_n ?_
       exact ⟨_, rfl, ⟨cz, ex, ey, af, b7, b8, b9, ca, cb, cc, _, _, rfl, h, hI, cu, cv, aw, ap, db, bl, dc, bm, dd, bn, trivial⟩, ⟨rfl, rfl, trivial⟩⟩
      ·
       replace h := h.2 fm
       refine W_skip ?_
       refine then_n (k97 _ _ ?_)
       clear k97 K97
       refine W_seq_k fun K101 k101 => ?_
       refine W_region [45, 46, 47, 48, 8] rfl (Ops_step (R_move rfl) rfl rfl (Ops_step (R_move rfl) rfl rfl ?_))
       have d9 := aw.lt
       refine Ops_to (R_buildSlice el29 zr5 (by decide) (by decide) rfl rfl) rfl rfl ?_
       rintro _ n2 ⟨kw, rfl, lm, ja, fh⟩
       have ln : OwnS w.heap.size 5 Gh.no ns _ (some ⟨kw, 0, none⟩) 1 ([lk] : List UInt8) := OwnS.ofBlk hI.st lm ja (all2_sc' _) rfl (by have := hI.size; omega) (by show 1 ≤ maxLen; decide)
       replace hI := hI.fr0 fh
       replace ap := ap.fr0 fh
       replace aw := aw.fr0 fh
       clear fh ja
       have ji : ∀ i ∈ bk (some ⟨kw, 0, none⟩) 1, i ∉ bk ex ey := sep_new (fun i_ hi_ => by have := (bk_of hi_).1; simp only [blkOf, List.mem_singleton] at this; omega) d9
       have lp := h.1
       replace h := h.2
       refine Ops_to (X_append (α := UInt8) (xs := cz) (ys := ([lk] : List UInt8)) el29 rfl rfl aw (Srcs.sc (Srcs.ofOwn Try.underlying29 ln (by decide))) hI.st lp (by decide) hI.size) rfl rfl ?_
       rintro _ n3 ⟨mr, ms, rfl, fi, fo, jq⟩
       clear jq
       replace hI := hI.tok fo aw.out (aw.new (Nat.le_refl _))
       replace ap := ap.fr fo (aw.old ak)
       clear fo aw
       refine Ops_step (R_assign rfl) rfl rfl ?_
       refine Ops_nil ?_
       refine then_n (k101 _ _ ?_)
       clear k101 K101
       refine W_keepB [0, 1, 8, 35, 36, 37] fun B_ b_ => ?_
       simp only [e_, Nat.reduceAdd, Nat.reduceBEq] at b_
       subst b_
       refine W_region [49, 50] rfl (Ops_step (R_move rfl) rfl rfl ?_)
       refine Ops_call (C_func bd54 rfl) rfl rfl ?_
       refine (sealskinref05_Disk_burn_ok (z0 := af) hI.st (hg.up hI.le) ap db bl dc bm dd bn h).mono ?_
       rintro _ n4 ⟨jr, gx, gy, gz, g6, g7, g8, n5, n6, rfl, jb, jc, fp, fq, ft, fu, fv, fw, h⟩
       refine Exists.elim (hI.call jb (mem1 (by simp))) fun nt gg => ?_
       have nu := hI.size
       replace hI := gg.1
       have ck := gg.2.1
       have lq := gg.2.2
       clear gg
       replace hs2 := hs2.up ck.hh
       replace cu := cu.trans ck.ll
       replace cv := cv.trans ck.hh
       replace bl := bl.up ck.hh
       replace bm := bm.up ck.hh
       replace bn := bn.up ck.hh
       replace fg := fg.trans ck.ll
       replace d5 := d5.trans ck.hh
       replace fi := fi.up (Le.refl _) ck (fi.oldt ak)
       clear ap
       clear jb ck lq
       refine ⟨_, rfl, ?_⟩
       refine Ops_nil ?_
       refine block_n ?_
       refine then_n (k94 _ _ ?_)
       clear k94 K94
       refine W_region [51, 37] rfl ?_
       have jd := h.1
       replace h := h.2
       refine Ops_step (R_add rfl rfl (wI jd.1 jd.2)) rfl rfl (Ops_step (R_move rfl) rfl rfl ?_)
       refine Ops_nil ?_
       refine then_n ?_
       exact h.elim fun m_ h => ⟨m_, _, h.1, rfl, ⟨(cz ++ ([lk] : List UInt8)), mr, ms, (dz + 1), jr, gx, gy, gz, g6, g7, g8, _, _, rfl, h.2, hI, fg, d5, fi, jc, fp, fq, ft, fu, fv, fw, trivial⟩, ⟨rfl, rfl, rfl, rfl, trivial⟩⟩
     ·
      replace h := h.2 i9
      refine W_exit ?_
      refine then_exit ?_
      clear k92 K92
      refine then_exit ?_
      refine block_exit ?_
      refine then_n ?_
      exact ⟨_, rfl, ⟨cz, ex, ey, af, b7, b8, b9, ca, cb, cc, _, _, rfl, h, hI, cu, cv, aw, ap, db, bl, dc, bm, dd, bn, trivial⟩, ⟨rfl, rfl, trivial⟩⟩
    ·
     simp only [e_, Nat.reduceAdd, Nat.reduceBEq] at b_
     subst b_
     clear h
     rintro _ pk ⟨dm, eu, ew, ac, bg, bh, bi, bj, dx, dy, pm, pn, rfl, kx, ky, cu, cv, fj, aq, ez, ci, e5, cj, lv, e8, -⟩
     replace hI := ky
     clear ky
     have h := i8 dm ac kx
     clear i8 kx
     refine W_seq_k fun K108 k108 => ?_
     refine W_region [52, 53, 54, 55, 56, 57, none] rfl (Ops_step (R_move rfl) rfl rfl (Ops_step (R_move rfl) rfl rfl (Ops_step (R_move rfl) rfl rfl (Ops_step (R_nilCheck rfl) rfl rfl ?_))))
     refine Ops_step (R_fieldAddr fo81_0 rfl) rfl rfl (Ops_step (R_indexArrK Try.underlying51 sz29 rfl rfl bo (by decide)) rfl rfl ?_)
     refine Exists.elim (fj.freeze hI) fun n7 e9 => Exists.elim e9 fun mt e9 => ?_
     replace hI := e9.1
     have fk := e9.2.1
     have je := e9.2.2.1 (Le.no _)
     have jf := fj.cap
     replace aq := aq.up fk (fj.old ak)
     replace ci := ci.up fk.hh
     replace cj := cj.up fk.hh
     replace e8 := e8.up fk.hh
     clear e9 fk fj
     refine Ops_to0 (R_store sz29 rfl rfl aq.blk (by show 2 < 6; decide) rfl) rfl ?_
     rintro _ n8 ⟨jg, jh⟩
     replace hI := hI.tok jh (out1 aq.out) (mem1 (by simp))
     replace aq : Tok mt _ d0 81 ([.slice bg ac.F_.e0_.length bh, .slice bi ac.F_.e1_.length bj, .slice eu dm.length ew, vi ac.Room_, .bool ac.Off_, vi ac.Fuse_]) := ⟨jg, aq.out⟩
     clear jh jg
     refine Ops_nil ?_
     refine then_n (k108 _ _ ?_)
     clear k108 K108
     refine W_keepB [0] fun B_ b_ => ?_
     simp only [e_, Nat.reduceAdd, Nat.reduceBEq] at b_
     subst b_
     refine W_seq_k fun K112 k112 => ?_
     refine W_seq_k fun K113 k113 => ?_
     refine W_region [58, 59, 60, 61] rfl (Ops_step (R_move rfl) rfl rfl (Ops_step (R_nilCheck rfl) rfl rfl (Ops_step (R_fieldAddr fo81_2 rfl) rfl rfl ?_)))
     refine Ops_step (R_loadB (v := .bool ac.Off_) ag4 rfl aq.blk rfl) rfl rfl ?_
     refine Ops_nil ?_
     refine then_n (k113 _ _ ?_)
     clear k113 K113
     refine W_cond rfl (fun fx => ?_) (fun fx => ?_)
     ·
      replace h := h.1 fx
      refine W_seq_k fun K115 k115 => ?_
      refine W_region [6] rfl (Ops_step (R_assign rfl) rfl rfl ?_)
      refine Ops_nil ?_
      refine then_n (k115 _ _ ?_)
      clear k115 K115
      refine W_ret ?_
      refine then_ret ?_
      clear k112 K112
      refine ⟨_, ⟨_, _, rfl, rfl, rfl⟩, ?_⟩
      exact ⟨50, (sealskinref05_Disk.mk (arr3_List_UInt8.mk ac.F_.e0_ ac.F_.e1_ dm) ac.Room_ ac.Off_ ac.Fuse_), bg, bh, bi, bj, eu, ew, _, _, rfl, hI, aq, ez, ci, e5, cj, jf, (je.up hI.sub), h⟩
     ·
      replace h := h.2 fx
      refine W_skip ?_
      refine then_n (k112 _ _ ?_)
      clear k112 K112
      refine W_seq_k fun K116 k116 => ?_
      refine W_region [6] rfl (Ops_step (R_assign rfl) rfl rfl ?_)
      refine Ops_nil ?_
      refine then_n (k116 _ _ ?_)
      clear k116 K116
      refine W_ret ?_
      refine ⟨_, ⟨_, _, rfl, rfl, rfl⟩, ?_⟩
      exact ⟨0, (sealskinref05_Disk.mk (arr3_List_UInt8.mk ac.F_.e0_ ac.F_.e1_ dm) ac.Room_ ac.Off_ ac.Fuse_), bg, bh, bi, bj, eu, ew, _, _, rfl, hI, aq, ez, ci, e5, cj, jf, (je.up hI.sub), h⟩

theorem sealskinref05_Disk_Read_ok {G : Gh} {w : World} (hS : St G w) (hg : GL G) {d0 : Nat} {z0 : sealskinref05_Disk} {af : Option Addr} {ag : Nat} {ah : Option Addr} {ai : Nat} {aj : Option Addr} {ak : Nat} (ae : Tok G w d0 81 ([.slice af z0.F_.e0_.length ag, .slice ah z0.F_.e1_.length ai, .slice aj z0.F_.e2_.length ak, vi z0.Room_, .bool z0.Off_, vi z0.Fuse_])) (al : z0.F_.e0_.length ≤ ag) (ab : Sl G af z0.F_.e0_) (am : z0.F_.e1_.length ≤ ai) (ac : Sl G ah z0.F_.e1_) (an : z0.F_.e2_.length ≤ ak) (ad : Sl G aj z0.F_.e2_) {x1 : Int} {Q : (List UInt8) → Int → Prop} (h : sealskinref05_Disk_Read z0 x1 Q) : Calls Try.prog 55 #[.pointer (some ⟨d0, 0, none⟩), vi x1] w fun e w2 => ∃ (A0 : Option Addr) (c0 : Nat) (r0 : List UInt8) (r1 : Int) (L H : Gh), e = .returned (.tuple #[.slice A0 r0.length c0, vi r1]) ∧ Inv [] G w L H w2 ∧ r0.length ≤ c0 ∧ Sl H A0 r0 ∧ Q r0 r1 := by
 unfold sealskinref05_Disk_Read at h
 have hI := Inv.start (M := []) hS
 refine calls_W 19 Try.func55 rfl Try.ntmps55 rfl [.tmp 4, .tmp 5] rfl ?_
 have av := ae.blk.lt
 refine W_seq_k fun K1 k1 => ?_
 refine W_region [4, 5] rfl (Ops_step (R_assign rfl) rfl rfl (Ops_step (R_assign rfl) rfl rfl ?_))
 refine Ops_nil ?_
 refine then_n (k1 _ _ ?_)
 clear k1 K1
 refine W_seq_k fun K2 k2 => ?_
 refine W_seq_k fun K3 k3 => ?_
 refine W_region [7, 8, 9, 6] rfl (Ops_step (R_move rfl) rfl rfl (Ops_step (R_move rfl) rfl rfl ?_))
 refine Ops_call (C_func bd52 rfl) rfl rfl ?_
 refine (sealskinref05_Disk_may_ok (x1 := x1) (z0 := z0) hI.st (hg.up hI.le) ae al ab am ac an ad h).mono ?_
 rintro _ a4 ⟨aw, a5, a6, rfl, ap, h⟩
 refine Exists.elim (hI.call ap (by simp)) fun ay au => ?_
 have az := hI.size
 replace hI := au.1
 have aq := au.2.1
 have ax := au.2.2
 clear au
 replace ab := ab.up aq.hh
 replace ac := ac.up aq.hh
 replace ad := ad.up aq.hh
 replace ae := ae.up aq (by simp)
 clear ap aq ax
 refine ⟨_, rfl, ?_⟩
 refine Ops_step (R_assign rfl) rfl rfl ?_
 refine Ops_nil ?_
 refine then_n (k3 _ _ ?_)
 clear k3 K3
 refine W_seq_k fun K5 k5 => ?_
 refine W_region [10, 11] rfl (Ops_step (R_move rfl) rfl rfl (Ops_step (R_neq rfl rfl) rfl rfl ?_))
 refine Ops_nil ?_
 refine then_n (k5 _ _ ?_)
 clear k5 K5
 refine W_keepB [0, 1, 6, 11] fun B_ b_ => ?_
 simp only [e_, Nat.reduceAdd, Nat.reduceBEq] at b_
 subst b_
 refine W_if rfl (fun ao => ?_) (fun ao => ?_)
 ·
  replace h := h.1 ao
  refine W_seq_k fun K8 k8 => ?_
  refine W_region [12, 4, 5] rfl (Ops_step (R_move rfl) rfl rfl (Ops_step (R_assign rfl) rfl rfl (Ops_step (R_assign rfl) rfl rfl ?_)))
  refine Ops_nil ?_
  refine then_n (k8 _ _ ?_)
  clear k8 K8
  refine W_ret ?_
  refine then_ret ?_
  clear k2 K2
  refine ⟨_, ⟨_, _, rfl, rfl, ⟨_, _, rfl, rfl, rfl⟩⟩, ?_⟩
  exact ⟨none, 0, [], aw, _, _, rfl, hI, (Nat.le_refl 0), Sl.nil, h⟩
 ·
  replace h := h.2 ao
  refine W_skip ?_
  refine then_n (k2 _ _ ?_)
  clear k2 K2
  refine W_seq_k fun K9 k9 => ?_
  refine W_region [13, 14, 15, 16, 17, 18, 4, 5] rfl (Ops_step (R_move rfl) rfl rfl (Ops_step (R_move rfl) rfl rfl (Ops_step (R_nilCheck rfl) rfl rfl (Ops_step (R_fieldAddr fo81_0 rfl) rfl rfl ?_))))
  have ar := h.1
  replace h := h.2
  refine split3 ar (fun aa => ?_) (fun aa => ?_) (fun aa => ?_)
  ·
   replace h := h.1 aa
   refine Ops_step (R_indexArrK Try.underlying51 sz29 rfl rfl aa (by decide)) rfl rfl ?_
   refine Ops_step (R_loadB (v := .slice af z0.F_.e0_.length ag) ag29 rfl ae.blk rfl) rfl rfl ?_
   refine Ops_step (R_assign rfl) rfl rfl (Ops_step (R_assign rfl) rfl rfl ?_)
   refine Ops_nil ?_
   refine then_n (k9 _ _ ?_)
   clear k9 K9
   refine W_keepB [4, 5] fun B_ b_ => ?_
   simp only [e_, Nat.reduceAdd, Nat.reduceBEq] at b_
   subst b_
   refine W_ret ?_
   refine ⟨_, ⟨_, _, rfl, rfl, ⟨_, _, rfl, rfl, rfl⟩⟩, ?_⟩
   exact ⟨af, ag, z0.F_.e0_, 0, _, _, rfl, hI, al, ab, h⟩
  ·
   replace h := h.2.1 aa
   refine Ops_step (R_indexArrK Try.underlying51 sz29 rfl rfl aa (by decide)) rfl rfl ?_
   refine Ops_step (R_loadB (v := .slice ah z0.F_.e1_.length ai) ag29 rfl ae.blk rfl) rfl rfl ?_
   refine Ops_step (R_assign rfl) rfl rfl (Ops_step (R_assign rfl) rfl rfl ?_)
   refine Ops_nil ?_
   refine then_n (k9 _ _ ?_)
   clear k9 K9
   refine W_keepB [4, 5] fun B_ b_ => ?_
   simp only [e_, Nat.reduceAdd, Nat.reduceBEq] at b_
   subst b_
   refine W_ret ?_
   refine ⟨_, ⟨_, _, rfl, rfl, ⟨_, _, rfl, rfl, rfl⟩⟩, ?_⟩
   exact ⟨ah, ai, z0.F_.e1_, 0, _, _, rfl, hI, am, ac, h⟩
  ·
   replace h := h.2.2 aa
   refine Ops_step (R_indexArrK Try.underlying51 sz29 rfl rfl aa (by decide)) rfl rfl ?_
   refine Ops_step (R_loadB (v := .slice aj z0.F_.e2_.length ak) ag29 rfl ae.blk rfl) rfl rfl ?_
   refine Ops_step (R_assign rfl) rfl rfl (Ops_step (R_assign rfl) rfl rfl ?_)
   refine Ops_nil ?_
   refine then_n (k9 _ _ ?_)
   clear k9 K9
   refine W_keepB [4, 5] fun B_ b_ => ?_
   simp only [e_, Nat.reduceAdd, Nat.reduceBEq] at b_
   subst b_
   refine W_ret ?_
   refine ⟨_, ⟨_, _, rfl, rfl, ⟨_, _, rfl, rfl, rfl⟩⟩, ?_⟩
   exact ⟨aj, ak, z0.F_.e2_, 0, _, _, rfl, hI, an, ad, h⟩

theorem sealskinref02_number_ok {G : Gh} {w : World} (hS : St G w) (hg : GL G) {A0 : Option Addr} {c0 : Nat} {x0 : List UInt8} (hc0 : x0.length ≤ c0) (hs0 : Sl G A0 x0) {Q : Int → Int → Prop} (h : sealskinref02_number x0 Q) : Calls Try.prog 88 #[.slice A0 x0.length c0] w fun e w2 => ∃ (r0 : Int) (r1 : Int) (L H : Gh), e = .returned (.tuple #[vi r0, vi r1]) ∧ Inv [] G w L H w2 ∧ Q r0 r1 := by
 unfold sealskinref02_number at h
 have hI := Inv.start (M := []) hS
 refine calls_W 26 Try.func88 rfl Try.ntmps88 rfl [.tmp 2, .tmp 3] rfl ?_
 refine W_seq_k fun K1 k1 => ?_
 refine W_region [2, 3] rfl (Ops_step (R_assign rfl) rfl rfl (Ops_step (R_assign rfl) rfl rfl ?_))
 refine Ops_nil ?_
 refine then_n (k1 _ _ ?_)
 clear k1 K1
 refine W_seq_k fun K2 k2 => ?_
 refine W_seq_k fun K3 k3 => ?_
 refine W_region [6, 7, 8] rfl (Ops_step (R_move rfl) rfl rfl (Ops_step (R_len Try.underlying29 rfl rfl) rfl rfl (Ops_step (R_lss rfl rfl) rfl rfl ?_)))
 refine Ops_nil ?_
 refine then_n (k3 _ _ ?_)
 clear k3 K3
 refine W_if rfl (fun aw => ?_) (fun aw => ?_)
 ·
  replace h := h.1 aw
  refine W_seq_k fun K5 k5 => ?_
  refine W_region [2, 3] rfl (Ops_step (R_assign rfl) rfl rfl (Ops_step (R_assign rfl) rfl rfl ?_))
  refine Ops_nil ?_
  refine then_n (k5 _ _ ?_)
  clear k5 K5
  refine W_ret ?_
  refine then_ret ?_
  clear k2 K2
  refine ⟨_, ⟨_, _, rfl, rfl, ⟨_, _, rfl, rfl, rfl⟩⟩, ?_⟩
  exact ⟨0, 2, _, _, rfl, hI, h⟩
 ·
  replace h := h.2 aw
  refine W_skip ?_
  refine then_n (k2 _ _ ?_)
  clear k2 K2
  refine W_seq_k fun K6 k6 => ?_
  refine W_seq_k fun K7 k7 => ?_
  refine W_region [9, 10, 11, 12] rfl (Ops_step (R_move rfl) rfl rfl ?_)
  refine ex_ h fun bi al h => ?_
  have az := (hs0.atS al).1
  have a4 := (hs0.atS al).2
  refine Ops_step (R_indexSl Try.underlying29 sz5 rfl rfl al.1 al.lt az) rfl rfl (Ops_step (R_load ag5 rfl (hI.st _ _ a4)) rfl rfl (Ops_step (R_gtr rfl rfl) rfl rfl ?_))
  refine Ops_nil ?_
  refine then_n (k7 _ _ ?_)
  clear k7 K7
  refine W_keepB [0, 12] fun B_ b_ => ?_
  simp only [e_, Nat.reduceAdd, Nat.reduceBEq] at b_
  subst b_
  refine W_if rfl (fun ah => ?_) (fun ah => ?_)
  ·
   replace h := h.1 ah
   refine W_seq_k fun K11 k11 => ?_
   refine W_region [2, 3] rfl (Ops_step (R_assign rfl) rfl rfl (Ops_step (R_assign rfl) rfl rfl ?_))
   refine Ops_nil ?_
   refine then_n (k11 _ _ ?_)
   clear k11 K11
   refine W_ret ?_
   refine then_ret ?_
   clear k6 K6
   refine ⟨_, ⟨_, _, rfl, rfl, ⟨_, _, rfl, rfl, rfl⟩⟩, ?_⟩
   exact ⟨0, 5, _, _, rfl, hI, h⟩
  ·
   replace h := h.2 ah
   refine W_skip ?_
   refine then_n (k6 _ _ ?_)
   clear k6 K6
   refine W_seq_k fun K12 k12 => ?_
   refine W_region [4] rfl (Ops_step (R_assign rfl) rfl rfl ?_)
   refine Ops_nil ?_
   refine then_n (k12 _ _ ?_)
   clear k12 K12
   refine ex_ h fun a5 ai h => ?_
   refine W_seq_join [] [4] (fun vals_ w2 => ∃ (ae : Int) (L H : Gh), vals_ = [vi ae] ∧ a5 ae ∧ Inv [] G w L H w2 ∧ Le Gh.no L ∧ Le G H ∧ True) (fun B_ b_ => ?_) (fun B_ b_ => ?_)
   ·
    simp only [e_, Nat.reduceAdd, Nat.reduceBEq] at b_
    subst b_
    clear ai
    have ac := Le.refl Gh.no
    have ad := Le.refl G
    refine W_seq_k fun K14 k14 => ?_
    refine W_region [13] rfl (Ops_step (R_move rfl) rfl rfl ?_)
    refine Ops_nil ?_
    refine then_n (k14 _ _ ?_)
    clear k14 K14
    refine W_block ?_
    refine Exists.elim h fun a6 h => Exists.elim h fun a7 h => ?_
    have ba := h.1
    have am := h.2
    clear h
    refine W_loopB [0] [4, 13] (fun m vals_ w2 => ∃ (ab : Int) (aa : Int) (L H : Gh), vals_ = [vi ab, vi aa] ∧ a6 m ab aa ∧ Inv [] G w L H w2 ∧ Le Gh.no L ∧ Le G H ∧ True) a7 _ rfl ⟨0, 0, _, _, rfl, ba, hI, Le.refl _, Le.refl _, trivial⟩ fun B_ b_ => ?_
    clear ba
    simp only [e_, Nat.reduceAdd, Nat.reduceBEq] at b_
    subst b_
    rintro a8 _ bc ⟨ab, aa, bd, be, rfl, an, ao, aj, af, -⟩
    replace hI := ao
    clear ao
    have h := am a8 ab aa an
    clear am an
    replace hs0 := hs0.up af
    replace ac := ac.trans aj
    replace ad := ad.trans af
    refine W_seq_k fun K16 k16 => ?_
    refine W_region [14] rfl (Ops_step (R_lss rfl rfl) rfl rfl ?_)
    refine Ops_nil ?_
    refine then_n (k16 _ _ ?_)
    clear k16 K16
    refine W_seq_k fun K17 k17 => ?_
    refine W_if rfl (fun ak => ?_) (fun ak => ?_)
    ·
     replace h := h.1 ak
     refine W_skip ?_
     refine then_n (k17 _ _ ?_)
     clear k17 K17
     refine W_seq_k fun K19 k19 => ?_
     refine W_block ?_
     refine W_seq_k fun K20 k20 => ?_
     refine W_region [15, 5] rfl (Ops_step (R_move rfl) rfl rfl (Ops_step (R_assign rfl) rfl rfl ?_))
     refine Ops_nil ?_
     refine then_n (k20 _ _ ?_)
     clear k20 K20
     refine W_region [16, 17, 18, 19, 20, 21, 22, 23, 4] rfl (Ops_step (R_move rfl) rfl rfl ?_)
     have ap := h.1
     replace h := h.2
     refine Ops_step (R_mul rfl rfl (wI ap.1 ap.2)) rfl rfl (Ops_step (R_move rfl) rfl rfl (Ops_step (R_move rfl) rfl rfl ?_))
     refine ex_ h fun a9 ag h => ?_
     have ax := (hs0.atS ag).1
     have ay := (hs0.atS ag).2
     refine Ops_step (R_indexSl Try.underlying29 sz5 rfl rfl ag.1 ag.lt ax) rfl rfl (Ops_step (R_load ag5 rfl (hI.st _ _ ay)) rfl rfl (Ops_step (R_conv Try.underlying5 Try.underlying3 rfl (c8_I _)) rfl rfl ?_))
     have aq := h.1
     replace h := h.2
     refine Ops_step (R_add rfl rfl (wI aq.1 aq.2)) rfl rfl (Ops_step (R_assign rfl) rfl rfl ?_)
     refine Ops_nil ?_
     refine block_n ?_
     refine then_n (k19 _ _ ?_)
     clear k19 K19
     refine W_keepB [0, 4, 13] fun B_ b_ => ?_
     simp only [e_, Nat.reduceAdd, Nat.reduceBEq] at b_
     subst b_
     refine W_region [24, 13] rfl ?_
     have ar := h.1
     replace h := h.2
     refine Ops_step (R_add rfl rfl (wI ar.1 ar.2)) rfl rfl (Ops_step (R_move rfl) rfl rfl ?_)
     refine Ops_nil ?_
     refine then_n ?_
     exact h.elim fun m_ h => ⟨m_, _, h.1, rfl, ⟨((256 * ab) + (a9.toNat : Int)), (aa + 1), _, _, rfl, h.2, hI, aj, af, trivial⟩, ⟨rfl, trivial⟩⟩
    ·
     replace h := h.2 ak
     refine W_exit ?_
     refine then_exit ?_
     clear k17 K17
     refine then_exit ?_
     refine block_exit ?_
     refine then_n ?_
     exact ⟨_, rfl, ⟨ab, _, _, rfl, h, hI, ac, ad, trivial⟩, trivial⟩
   ·
    simp only [e_, Nat.reduceAdd, Nat.reduceBEq] at b_
    subst b_
    clear h
    rintro _ bf ⟨ae, bg, bh, rfl, au, av, ac, ad, -⟩
    replace hI := av
    clear av
    have h := ai ae au
    clear ai au
    refine W_seq_k fun K26 k26 => ?_
    refine W_region [25, 2, 3] rfl (Ops_step (R_move rfl) rfl rfl (Ops_step (R_assign rfl) rfl rfl (Ops_step (R_assign rfl) rfl rfl ?_)))
    refine Ops_nil ?_
    refine then_n (k26 _ _ ?_)
    clear k26 K26
    refine W_ret ?_
    refine ⟨_, ⟨_, _, rfl, rfl, ⟨_, _, rfl, rfl, rfl⟩⟩, ?_⟩
    exact ⟨ae, 0, _, _, rfl, hI, h⟩

theorem sealskinref02_Reader_Bytes_ok {G : Gh} {w : World} (hS : St G w) (hg : GL G) {d0 : Nat} {z0 : sealskinref02_Reader} {ac : Option Addr} {ad : Nat} (aa : Tok G w d0 113 ([.slice ac z0.B_.length ad, vi z0.At_, vi z0.E_])) (ae : z0.B_.length ≤ ad) (ab : Sl G ac z0.B_) {x1 : Int} {Q : (List UInt8) → sealskinref02_Reader → Prop} (h : sealskinref02_Reader_Bytes z0 x1 Q) : Calls Try.prog 75 #[.pointer (some ⟨d0, 0, none⟩), vi x1] w fun e w2 => ∃ (A0 : Option Addr) (c0 : Nat) (r0 : List UInt8) (y0 : sealskinref02_Reader) (bp : Option Addr) (bq : Nat) (L H : Gh), e = .returned (.slice A0 r0.length c0) ∧ Inv [d0] G w L H w2 ∧ OwnS w.heap.size 5 L H w2 A0 c0 r0 ∧ Tok H w2 d0 113 ([.slice bp y0.B_.length bq, vi y0.At_, vi y0.E_]) ∧ y0.B_.length ≤ bq ∧ Sl H bp y0.B_ ∧ Q r0 y0 := by
 unfold sealskinref02_Reader_Bytes at h
 have hI := Inv.start (M := [d0]) hS
 refine calls_W 83 Try.func75 rfl Try.ntmps75 rfl [.tmp 4] rfl ?_
 have cp := aa.blk.lt
 refine W_seq_k fun K1 k1 => ?_
 refine W_region [4] rfl (Ops_step (R_assign rfl) rfl rfl ?_)
 refine Ops_nil ?_
 refine then_n (k1 _ _ ?_)
 clear k1 K1
 refine W_seq_k fun K2 k2 => ?_
 refine W_seq_k fun K3 k3 => ?_
 refine W_region [8, 9, 10, 11, 12] rfl (Ops_step (R_move rfl) rfl rfl (Ops_step (R_nilCheck rfl) rfl rfl (Ops_step (R_fieldAddr fo113_2 rfl) rfl rfl ?_)))
 refine Ops_step (R_loadB (v := vi z0.E_) ag32 rfl aa.blk rfl) rfl rfl ?_
 refine Ops_step (R_neq rfl rfl) rfl rfl ?_
 refine Ops_nil ?_
 refine then_n (k3 _ _ ?_)
 clear k3 K3
 refine W_if rfl (fun cq => ?_) (fun cq => ?_)
 ·
  replace h := h.1 cq
  refine W_seq_k fun K5 k5 => ?_
  refine W_region [4] rfl (Ops_step (R_assign rfl) rfl rfl ?_)
  refine Ops_nil ?_
  refine then_n (k5 _ _ ?_)
  clear k5 K5
  refine W_keepB [4] fun B_ b_ => ?_
  simp only [e_, Nat.reduceAdd, Nat.reduceBEq] at b_
  subst b_
  refine W_ret ?_
  refine then_ret ?_
  clear k2 K2
  refine ⟨_, ⟨_, _, rfl, rfl, rfl⟩, ?_⟩
  exact ⟨none, 0, [], z0, ac, ad, _, _, rfl, hI, OwnS.nil, aa, ae, ab, h⟩
 ·
  replace h := h.2 cq
  refine W_skip ?_
  refine then_n (k2 _ _ ?_)
  clear k2 K2
  refine W_keepB [0, 1] fun B_ b_ => ?_
  simp only [e_, Nat.reduceAdd, Nat.reduceBEq] at b_
  subst b_
  refine W_seq_k fun K8 k8 => ?_
  refine W_drawF [14, 15, 16, 17, 18, 19, 20, 21, 22, 23, 13, 24, 25, 5, 6] [(0, true), (1, true), (2, true), (3, true), (4, true), (5, true), (6, true), (7, true), (8, true), (9, false), (10, true), (11, true), (12, true), (13, true), (14, true)] TJtG.hm rfl (by kernel_rfl) fun dh ec a4 cr => ?_
  replace hI := hI.fr0 cr
  replace aa := aa.fr0 cr
  clear cr
  refine HSp (R_move rfl) rfl rfl (HSp (R_nilCheck rfl) rfl rfl (HSp (R_fieldAddr fo113_0 rfl) rfl rfl ?_))
  refine HS_loadB (v := .slice ac z0.B_.length ad) ag29 rfl aa.blk rfl rfl rfl ?_
  refine HSp (R_move rfl) rfl rfl (HSp (R_nilCheck rfl) rfl rfl (HSp (R_fieldAddr fo113_1 rfl) rfl rfl ?_))
  refine HS_loadB (v := vi z0.At_) ag3 rfl aa.blk rfl rfl rfl ?_
  have br := h.1
  replace h := h.2
  have bt := h.1
  replace h := h.2
  refine Exists.elim (cut_ex (n := 1) (l := z0.At_) (h := (z0.B_.length : Int)) ab rfl (by decide) ae br bt (Int.le_refl _)) fun dk ay => Exists.elim ay fun dl ay => ?_
  have bu := ay.1
  have cw := ay.2.1
  have cx := ay.2.2
  clear ay
  refine HSp (X_slice (xs := z0.B_) Try.underlying29 sz5 rfl bu ae rfl rfl br bt (Int.le_refl _)) rfl rfl ?_
  clear bu
  refine HS_call [] _ rfl (by rw [a4]; kernel_rfl) (C_func bd88 rfl) rfl rfl ?_
  refine (sealskinref02_number_ok (x0 := (cut z0.B_ z0.At_ (z0.B_.length : Int))) hI.st (hg.up hI.le) cw cx h).mono ?_
  rintro _ dm ⟨af, bv, dn, bl, rfl, bw, h⟩
  refine Exists.elim (hI.call bw (by simp)) fun aw bm => ?_
  have di := hI.size
  replace hI := bm.1
  have ct := bm.2.1
  have cy := bm.2.2
  clear bm
  replace ab := ab.up ct.hh
  replace aa := aa.up ct (by simp)
  clear bw ct cy
  refine ⟨_, rfl, trivial, ?_⟩
  refine HSp (R_move rfl) rfl rfl ?_
  refine HSp (R_extract (v := vi af) rfl rfl) rfl rfl ?_
  refine HSp (R_extract (v := vi bv) rfl rfl) rfl rfl ?_
  refine HSp (R_assign rfl) rfl rfl (HSp (R_assign rfl) rfl rfl ?_)
  refine HS_nil ?_
  clear a4
  refine then_n (k8 _ _ ?_)
  clear k8 K8
  refine W_keepB [0, 1, 5, 6] fun B_ b_ => ?_
  simp only [e_, Nat.reduceAdd, Nat.reduceBEq] at b_
  subst b_
  refine ex_ h fun c8 a5 h => ?_
  refine W_seq_join [0, 5] [6] (fun vals_ w2 => ∃ (au : Int) (L H : Gh), vals_ = [vi au] ∧ c8 au ∧ Inv [d0] G w L H w2 ∧ Le aw L ∧ Le bl H ∧ Tok H w2 d0 113 ([.slice ac z0.B_.length ad, vi z0.At_, vi z0.E_]) ∧ True) (fun B_ b_ => ?_) (fun B_ b_ => ?_)
  ·
   simp only [e_, Nat.reduceAdd, Nat.reduceBEq] at b_
   subst b_
   clear a5
   have aj := Le.refl aw
   have ag := Le.refl bl
   refine ex_ h fun c9 a6 h => ?_
   refine W_seq_join [0, 5, 6] [36] (fun vals_ w2 => ∃ (ao : Bool) (L H : Gh), vals_ = [.bool ao] ∧ c9 ao ∧ Inv [d0] G w L H w2 ∧ Le aw L ∧ Le bl H ∧ Tok H w2 d0 113 ([.slice ac z0.B_.length ad, vi z0.At_, vi z0.E_]) ∧ True) (fun B_ b_ => ?_) (fun B_ b_ => ?_)
   ·
    simp only [e_, Nat.reduceAdd, Nat.reduceBEq] at b_
    subst b_
    clear a6
    have ak := Le.refl aw
    have ah := Le.refl bl
    refine W_region [26, 27, 28, 29, 30, 31, 32, 33, 34, 35, 36] rfl (Ops_step (R_move rfl) rfl rfl (Ops_step (R_eql rfl rfl) rfl rfl (Ops_step (R_move rfl) rfl rfl ?_)))
    refine Ops_split 28 rfl (fun a7 => ?_) (fun a7 => ?_)
    ·
     replace h := h.1 a7
     refine Ops_step (R_move rfl) rfl rfl (Ops_step (R_gtr rfl rfl) rfl rfl (Ops_step (R_pick_true rfl rfl) rfl rfl (Ops_step (R_move rfl) rfl rfl ?_)))
     refine Ops_split 32 rfl (fun a8 => ?_) (fun a8 => ?_)
     ·
      replace h := h.1 a8
      refine Ops_step (R_move rfl) rfl rfl (Ops_step (R_move rfl) rfl rfl (Ops_step (R_gtr rfl rfl) rfl rfl (Ops_step (R_pick_true rfl rfl) rfl rfl ?_)))
      refine Ops_nil ?_
      refine then_n ?_
      exact ⟨_, rfl, ⟨(decide (af > x1)), _, _, rfl, h, hI, ak, ah, aa, trivial⟩, ⟨rfl, rfl, rfl, trivial⟩⟩
     ·
      replace h := h.2 a8
      refine Ops_pass rfl rfl (Ops_pass rfl rfl (Ops_pass rfl rfl (Ops_step (R_pick_false rfl rfl) rfl rfl ?_)))
      refine Ops_nil ?_
      refine then_n ?_
      exact ⟨_, rfl, ⟨false, _, _, rfl, h, hI, ak, ah, aa, trivial⟩, ⟨rfl, rfl, rfl, trivial⟩⟩
    ·
     replace h := h.2 a7
     refine Ops_pass rfl rfl (Ops_pass rfl rfl (Ops_step (R_pick_false rfl rfl) rfl rfl (Ops_step (R_move rfl) rfl rfl (Ops_pass rfl rfl ?_))))
     refine Ops_pass rfl rfl (Ops_pass rfl rfl (Ops_step (R_pick_false rfl rfl) rfl rfl ?_))
     refine Ops_nil ?_
     refine then_n ?_
     exact ⟨_, rfl, ⟨false, _, _, rfl, h, hI, ak, ah, aa, trivial⟩, ⟨rfl, rfl, rfl, trivial⟩⟩
   ·
    simp only [e_, Nat.reduceAdd, Nat.reduceBEq] at b_
    subst b_
    clear h
    clear aa
    rintro _ dp ⟨ao, dq, dr, rfl, bx, bz, ak, ah, aa, -⟩
    replace hI := bz
    clear bz
    have h := a6 ao bx
    clear a6 bx
    replace ab := ab.up ah
    replace aj := aj.trans ak
    replace ag := ag.trans ah
    refine W_cond rfl (fun a9 => ?_) (fun a9 => ?_)
    ·
     replace h := h.1 a9
     refine W_region [6] rfl (Ops_step (R_assign rfl) rfl rfl ?_)
     refine Ops_nil ?_
     refine then_n ?_
     exact ⟨_, rfl, ⟨4, _, _, rfl, h, hI, aj, ag, aa, trivial⟩, ⟨rfl, rfl, trivial⟩⟩
    ·
     replace h := h.2 a9
     refine W_skip ?_
     refine then_n ?_
     exact ⟨_, rfl, ⟨bv, _, _, rfl, h, hI, aj, ag, aa, trivial⟩, ⟨rfl, rfl, trivial⟩⟩
  ·
   simp only [e_, Nat.reduceAdd, Nat.reduceBEq] at b_
   subst b_
   clear h
   clear aa
   rintro _ dt ⟨au, bn, bo, rfl, b4, b5, aj, ag, aa, -⟩
   replace hI := b5
   clear b5
   have h := a5 au b4
   clear a5 b4
   replace ab := ab.up ag
   refine ex_ h fun da ba h => ?_
   refine W_seq_join [0, 5] [6] (fun vals_ w2 => ∃ (an : Int) (L H : Gh), vals_ = [vi an] ∧ da an ∧ Inv [d0] G w L H w2 ∧ Le bn L ∧ Le bo H ∧ Tok H w2 d0 113 ([.slice ac z0.B_.length ad, vi z0.At_, vi z0.E_]) ∧ True) (fun B_ b_ => ?_) (fun B_ b_ => ?_)
   ·
    simp only [e_, Nat.reduceAdd, Nat.reduceBEq] at b_
    subst b_
    clear ba
    have al := Le.refl bn
    have ai := Le.refl bo
    refine ex_ h fun db bc h => ?_
    refine W_seq_join [0, 5, 6] [53] (fun vals_ w2 => ∃ (ap : Bool) (L H : Gh), vals_ = [.bool ap] ∧ db ap ∧ Inv [d0] G w L H w2 ∧ Le bn L ∧ Le bo H ∧ Tok H w2 d0 113 ([.slice ac z0.B_.length ad, vi z0.At_, vi z0.E_]) ∧ True) (fun B_ b_ => ?_) (fun B_ b_ => ?_)
    ·
     simp only [e_, Nat.reduceAdd, Nat.reduceBEq] at b_
     subst b_
     clear bc
     have aq := Le.refl bn
     have am := Le.refl bo
     refine W_drawF [37, 38, 39, 40, 41, 42, 43, 44, 45, 46, 47, 48, 49, 50, 51, 52, 53] [(0, true), (1, true), (2, true), (3, true), (4, true), (5, true), (6, true), (7, true), (8, true), (9, true), (10, true), (11, true), (12, true), (13, true), (14, true), (15, true), (16, true)] TJtG.hm rfl (by kernel_rfl) fun dc du ax bd => ?_
     replace hI := hI.fr0 bd
     replace aa := aa.fr0 bd
     clear bd
     refine HSp (R_move rfl) rfl rfl (HSp (R_eql rfl rfl) rfl rfl (HSp (R_move rfl) rfl rfl ?_))
     refine HS_split 39 rfl (fun be => ?_) (fun be => ?_)
     ·
      replace h := h.1 be
      refine HSp (R_move rfl) rfl rfl (HSp (R_move rfl) rfl rfl (HSp (R_nilCheck rfl) rfl rfl (HSp (R_fieldAddr fo113_0 rfl) rfl rfl ?_)))
      refine HS_loadB (v := .slice ac z0.B_.length ad) ag29 rfl aa.blk rfl rfl rfl ?_
      refine HSp (R_len Try.underlying29 rfl rfl) rfl rfl (HSp (R_move rfl) rfl rfl (HSp (R_nilCheck rfl) rfl rfl (HSp (R_fieldAddr fo113_1 rfl) rfl rfl ?_)))
      refine HS_loadB (v := vi z0.At_) ag3 rfl aa.blk rfl rfl rfl ?_
      have b6 := h.1
      replace h := h.2
      refine HSp (R_sub rfl rfl (wI b6.1 b6.2)) rfl rfl ?_
      have b7 := h.1
      replace h := h.2
      refine HSp (R_sub rfl rfl (wI b7.1 b7.2)) rfl rfl (HSp (R_gtr rfl rfl) rfl rfl (HSp (R_pick_true rfl rfl) rfl rfl ?_))
      refine HS_nil ?_
      clear ax
      refine then_n ?_
      exact ⟨_, rfl, ⟨(decide (af > (((z0.B_.length : Int) - z0.At_) - 8))), _, _, rfl, h, hI, aq, am, aa, trivial⟩, ⟨rfl, rfl, rfl, trivial⟩⟩
     ·
      replace h := h.2 be
      refine HS_pass rfl rfl ?_
      refine HS_pass rfl rfl ?_
      refine HS_pass rfl rfl ?_
      refine HS_pass rfl rfl ?_
      refine HS_pass rfl rfl ?_
      refine HS_pass rfl rfl ?_
      refine HS_pass rfl rfl ?_
      refine HS_pass rfl rfl ?_
      refine HS_pass rfl rfl ?_
      refine HS_pass rfl rfl ?_
      refine HS_pass rfl rfl ?_
      refine HS_pass rfl rfl ?_
      refine HS_pass rfl rfl ?_
      refine HSp (R_pick_false rfl rfl) rfl rfl ?_
      refine HS_nil ?_
      clear ax
      refine then_n ?_
      exact ⟨_, rfl, ⟨false, _, _, rfl, h, hI, aq, am, aa, trivial⟩, ⟨rfl, rfl, rfl, trivial⟩⟩
    ·
     simp only [e_, Nat.reduceAdd, Nat.reduceBEq] at b_
     subst b_
     clear h
     clear aa
     rintro _ dv ⟨ap, dw, dx, rfl, b8, b9, aq, am, aa, -⟩
     replace hI := b9
     clear b9
     have h := bc ap b8
     clear bc b8
     replace ab := ab.up am
     replace al := al.trans aq
     replace ai := ai.trans am
     refine W_cond rfl (fun bf => ?_) (fun bf => ?_)
     ·
      replace h := h.1 bf
      refine W_region [6] rfl (Ops_step (R_assign rfl) rfl rfl ?_)
      refine Ops_nil ?_
      refine then_n ?_
      exact ⟨_, rfl, ⟨2, _, _, rfl, h, hI, al, ai, aa, trivial⟩, ⟨rfl, rfl, trivial⟩⟩
     ·
      replace h := h.2 bf
      refine W_skip ?_
      refine then_n ?_
      exact ⟨_, rfl, ⟨au, _, _, rfl, h, hI, al, ai, aa, trivial⟩, ⟨rfl, rfl, trivial⟩⟩
   ·
    simp only [e_, Nat.reduceAdd, Nat.reduceBEq] at b_
    subst b_
    clear h
    clear aa
    rintro _ dy ⟨an, dz, cu, rfl, ca, cb, al, ai, aa, -⟩
    replace hI := cb
    clear cb
    have h := ba an ca
    clear ba ca
    replace ab := ab.up ai
    refine W_seq_k fun K27 k27 => ?_
    refine W_seq_k fun K28 k28 => ?_
    refine W_region [54, 55] rfl (Ops_step (R_move rfl) rfl rfl (Ops_step (R_neq rfl rfl) rfl rfl ?_))
    refine Ops_nil ?_
    refine then_n (k28 _ _ ?_)
    clear k28 K28
    refine W_if rfl (fun bg => ?_) (fun bg => ?_)
    ·
     replace h := h.1 bg
     refine W_seq_k fun K30 k30 => ?_
     refine W_region [56, 57, 58, 59, none] rfl (Ops_step (R_move rfl) rfl rfl (Ops_step (R_move rfl) rfl rfl (Ops_step (R_nilCheck rfl) rfl rfl (Ops_step (R_fieldAddr fo113_2 rfl) rfl rfl ?_))))
     refine Ops_to0 (R_store sz32 rfl rfl aa.blk (by show 2 < 3; decide) rfl) rfl ?_
     rintro _ d5 ⟨cc, cd⟩
     replace hI := hI.tok cd (out1 aa.out) (mem1 (by simp))
     replace aa : Tok cu _ d0 113 ([.slice ac z0.B_.length ad, vi z0.At_, vi an]) := ⟨cc, aa.out⟩
     clear cd cc
     refine Ops_nil ?_
     refine then_n (k30 _ _ ?_)
     clear k30 K30
     refine W_keepB [] fun B_ b_ => ?_
     simp only [e_, Nat.reduceAdd, Nat.reduceBEq] at b_
     subst b_
     refine W_seq_k fun K33 k33 => ?_
     refine W_region [4] rfl (Ops_step (R_assign rfl) rfl rfl ?_)
     refine Ops_nil ?_
     refine then_n (k33 _ _ ?_)
     clear k33 K33
     refine W_ret ?_
     refine then_ret ?_
     clear k27 K27
     refine ⟨_, ⟨_, _, rfl, rfl, rfl⟩, ?_⟩
     exact ⟨none, 0, [], (sealskinref02_Reader.mk z0.B_ z0.At_ an), ac, ad, _, _, rfl, hI, OwnS.nil, aa, ae, ab, h⟩
    ·
     replace h := h.2 bg
     refine W_skip ?_
     refine then_n (k27 _ _ ?_)
     clear k27 K27
     refine W_seq_k fun K34 k34 => ?_
     refine W_region [60, 61, 62, 63, 64, 7] rfl (Ops_step (R_move rfl) rfl rfl (Ops_step (R_nilCheck rfl) rfl rfl (Ops_step (R_fieldAddr fo113_1 rfl) rfl rfl ?_)))
     refine Ops_step (R_loadB (v := vi z0.At_) ag3 rfl aa.blk rfl) rfl rfl ?_
     have ce := h.1
     replace h := h.2
     refine Ops_step (R_add rfl rfl (wI ce.1 ce.2)) rfl rfl (Ops_step (R_assign rfl) rfl rfl ?_)
     refine Ops_nil ?_
     refine then_n (k34 _ _ ?_)
     clear k34 K34
     refine W_keepB [0, 5, 7] fun B_ b_ => ?_
     simp only [e_, Nat.reduceAdd, Nat.reduceBEq] at b_
     subst b_
     refine W_seq_k fun K37 k37 => ?_
     refine W_region [65, 66, 67, 68, 69, 70, none] rfl (Ops_step (R_move rfl) rfl rfl (Ops_step (R_move rfl) rfl rfl (Ops_step (R_move rfl) rfl rfl ?_)))
     have cf := h.1
     replace h := h.2
     refine Ops_step (R_add rfl rfl (wI cf.1 cf.2)) rfl rfl (Ops_step (R_nilCheck rfl) rfl rfl (Ops_step (R_fieldAddr fo113_1 rfl) rfl rfl ?_))
     refine Ops_to0 (R_store sz3 rfl rfl aa.blk (by show 1 < 3; decide) rfl) rfl ?_
     rintro _ d6 ⟨cg, ci⟩
     replace hI := hI.tok ci (out1 aa.out) (mem1 (by simp))
     replace aa : Tok cu _ d0 113 ([.slice ac z0.B_.length ad, vi ((z0.At_ + 8) + af), vi z0.E_]) := ⟨cg, aa.out⟩
     clear ci cg
     refine Ops_nil ?_
     refine then_n (k37 _ _ ?_)
     clear k37 K37
     refine W_keepB [0, 7] fun B_ b_ => ?_
     simp only [e_, Nat.reduceAdd, Nat.reduceBEq] at b_
     subst b_
     refine W_seq_k fun K41 k41 => ?_
     refine W_drawF [71, 72, 73, 74, 75, 76, 77, 78, 79, 80, 81, 82, 4] [(1, true), (2, true), (3, true), (4, true), (5, true), (6, true), (7, true), (8, true), (9, true), (10, true), (0, false), (11, false), (12, true)] TJtG.hm rfl (by kernel_rfl) fun dd d7 ar bh => ?_
     replace hI := hI.fr0 bh
     replace aa := aa.fr0 bh
     clear bh
     refine HSp (R_move rfl) rfl rfl (HSp (R_nilCheck rfl) rfl rfl (HSp (R_fieldAddr fo113_0 rfl) rfl rfl ?_))
     refine HS_loadB (v := .slice ac z0.B_.length ad) ag29 rfl aa.blk rfl rfl rfl ?_
     refine HSp (R_move rfl) rfl rfl (HSp (R_move rfl) rfl rfl (HSp (R_nilCheck rfl) rfl rfl (HSp (R_fieldAddr fo113_1 rfl) rfl rfl ?_)))
     refine HS_loadB (v := vi ((z0.At_ + 8) + af)) ag3 rfl aa.blk rfl rfl rfl ?_
     have cj := h.1
     replace h := h.2
     have ck := h.1
     replace h := h.2
     have cl := h.1
     replace h := h.2
     refine Exists.elim (cut_ex (n := 1) (l := (z0.At_ + 8)) (h := ((z0.At_ + 8) + af)) ab rfl (by decide) ae cj ck cl) fun d8 az => Exists.elim az fun d9 az => ?_
     have cm := az.1
     have dj := az.2.1
     have cz := az.2.2
     clear az
     refine HSp (X_slice (xs := z0.B_) Try.underlying29 sz5 rfl cm ae rfl rfl cj ck cl) rfl rfl ?_
     clear cm
     refine HS_to [9, 4] _ rfl (by rw [ar]; kernel_rfl) (R_buildSlice0 el29) rfl rfl ?_
     rintro _ ea ⟨de, rfl, c5, co, bi⟩
     have av : OwnS w.heap.size 5 Gh.no cu _ (some ⟨de, 0, none⟩) 0 ([] : List UInt8) := OwnS.ofBlk hI.st c5 co (all2_sc' _) rfl (by have := hI.size; omega) (by show 0 ≤ maxLen; decide)
     replace hI := hI.fr0 bi
     replace aa := aa.fr0 bi
     clear bi co
     refine ⟨⟨(aa.blk.at_ rfl), (aa.blk.at_ rfl), trivial⟩, ?_⟩
     have c6 := h.1
     replace h := h.2
     refine HS_to [] _ rfl (by rw [ar]; kernel_rfl) (X_append (α := UInt8) (xs := ([] : List UInt8)) (ys := (cut z0.B_ (z0.At_ + 8) ((z0.At_ + 8) + af))) el29 rfl rfl av (Srcs.sc (Srcs.ofSl Try.underlying29 cz hI.st (by decide))) hI.st c6 (by decide) hI.size) rfl rfl ?_
     rintro _ eb ⟨df, dg, rfl, c7, bj, cv⟩
     clear cv
     replace hI := hI.tok bj av.out (av.new (Nat.le_refl _))
     replace aa := aa.fr bj (av.old cp)
     clear bj av
     refine ⟨trivial, ?_⟩
     refine HSp (R_assign rfl) rfl rfl ?_
     refine HS_nil ?_
     clear ar
     refine then_n (k41 _ _ ?_)
     clear k41 K41
     refine W_keepB [4] fun B_ b_ => ?_
     simp only [e_, Nat.reduceAdd, Nat.reduceBEq] at b_
     subst b_
     refine W_ret ?_
     refine ⟨_, ⟨_, _, rfl, rfl, rfl⟩, ?_⟩
     exact ⟨df, dg, (([] : List UInt8) ++ (cut z0.B_ (z0.At_ + 8) ((z0.At_ + 8) + af))), (sealskinref02_Reader.mk z0.B_ ((z0.At_ + 8) + af) z0.E_), ac, ad, _, _, rfl, hI, (c7.hl (Le.no _)), aa, ae, ab, h⟩

theorem sealskinref02_Reader_Left_ok {G : Gh} {w : World} (hS : St G w) (hg : GL G) {d0 : Nat} {z0 : sealskinref02_Reader} {aa : Option Addr} {ab : Nat} (ac : Tok G w d0 113 ([.slice aa z0.B_.length ab, vi z0.At_, vi z0.E_])) (ag : z0.B_.length ≤ ab) (ah : Sl G aa z0.B_) {Q : Int → Prop} (h : sealskinref02_Reader_Left z0 Q) : Calls Try.prog 86 #[.pointer (some ⟨d0, 0, none⟩)] w fun e w2 => ∃ (r0 : Int) (L H : Gh), e = .returned (vi r0) ∧ Inv [] G w L H w2 ∧ Q r0 := by
 unfold sealskinref02_Reader_Left at h
 have hI := Inv.start (M := []) hS
 refine calls_W 13 Try.func86 rfl Try.ntmps86 rfl [.tmp 2] rfl ?_
 have ai := ac.blk.lt
 refine W_seq_k fun K1 k1 => ?_
 refine W_region [2] rfl (Ops_step (R_assign rfl) rfl rfl ?_)
 refine Ops_nil ?_
 refine then_n (k1 _ _ ?_)
 clear k1 K1
 refine W_seq_k fun K2 k2 => ?_
 refine W_drawF [3, 4, 5, 6, 7, 8, 9, 10, 11, 12, 2] [(0, true), (1, true), (2, true), (3, true), (4, true), (5, true), (6, true), (7, true), (8, true), (9, true), (10, true)] TJtG.hm rfl (by kernel_rfl) fun aj ak ad ae => ?_
 replace hI := hI.fr0 ae
 replace ac := ac.fr0 ae
 clear ae
 refine HSp (R_move rfl) rfl rfl (HSp (R_nilCheck rfl) rfl rfl (HSp (R_fieldAddr fo113_0 rfl) rfl rfl ?_))
 refine HS_loadB (v := .slice aa z0.B_.length ab) ag29 rfl ac.blk rfl rfl rfl ?_
 refine HSp (R_len Try.underlying29 rfl rfl) rfl rfl (HSp (R_move rfl) rfl rfl (HSp (R_nilCheck rfl) rfl rfl (HSp (R_fieldAddr fo113_1 rfl) rfl rfl ?_)))
 refine HS_loadB (v := vi z0.At_) ag3 rfl ac.blk rfl rfl rfl ?_
 have af := h.1
 replace h := h.2
 refine HSp (R_sub rfl rfl (wI af.1 af.2)) rfl rfl (HSp (R_assign rfl) rfl rfl ?_)
 refine HS_nil ?_
 clear ad
 refine then_n (k2 _ _ ?_)
 clear k2 K2
 refine W_keepB [2] fun B_ b_ => ?_
 simp only [e_, Nat.reduceAdd, Nat.reduceBEq] at b_
 subst b_
 refine W_ret ?_
 refine ⟨_, ⟨_, _, rfl, rfl, rfl⟩, ?_⟩
 exact ⟨((z0.B_.length : Int) - z0.At_), _, _, rfl, hI, h⟩

end Go.Proofs.Ytkmljjhjojolcaa

