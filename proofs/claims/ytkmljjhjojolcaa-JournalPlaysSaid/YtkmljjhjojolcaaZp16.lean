/- What is shown of the program on the way to the law. -/
import Derived.Test.YtkmljjhjojolcaaZp3
import Derived.Test.YtkmljjhjojolcaaZp4
import Derived.Test.YtkmljjhjojolcaaZp7
import Derived.Test.YtkmljjhjojolcaaZp8
import Derived.Test.YtkmljjhjojolcaaZp10
import Derived.Test.YtkmljjhjojolcaaZp12
import Derived.Test.YtkmljjhjojolcaaZp14
import Derived.Test.YtkmljjhjojolcaaProg
set_option linter.unusedVariables false
set_option linter.unusedSimpArgs false
set_option maxHeartbeats 4000000
namespace Go.Proofs.Ytkmljjhjojolcaa
open Go Go.Sx Go.Lx
namespace TJtM
theorem hm : Try.prog.follows .mixedOrders = true := by kernel_rfl
theorem ag25 : aggB Try.prog 25 = some false := by kernel_rfl
theorem ag3 : aggB Try.prog 3 = some false := by kernel_rfl
theorem ag36 : aggB Try.prog 36 = some false := by kernel_rfl
theorem ag39 : aggB Try.prog 39 = some true := by kernel_rfl
theorem ag41 : aggB Try.prog 41 = some false := by kernel_rfl
theorem ag64 : aggB Try.prog 64 = some false := by kernel_rfl
theorem ag85 : aggB Try.prog 85 = some true := by kernel_rfl
theorem ag9 : aggB Try.prog 9 = some false := by kernel_rfl
theorem bd26 : bodied Try.prog 26 = true := by kernel_rfl
theorem bd27 : bodied Try.prog 27 = true := by kernel_rfl
theorem bd32 : bodied Try.prog 32 = true := by kernel_rfl
theorem bd39 : bodied Try.prog 39 = true := by kernel_rfl
theorem bd41 : bodied Try.prog 41 = true := by kernel_rfl
theorem bd43 : bodied Try.prog 43 = true := by kernel_rfl
theorem bd62 : bodied Try.prog 62 = true := by kernel_rfl
theorem el36 : Elem Try.prog 36 39 2 24 := Elem.of (by kernel_rfl)
theorem fo39_0 : offB Try.prog 39 0 = some 0 := by kernel_rfl
theorem fo39_1 : offB Try.prog 39 1 = some 1 := by kernel_rfl
theorem fo44_0 : offB Try.prog 44 0 = some 0 := by kernel_rfl
theorem fo46_0 : offB Try.prog 46 0 = some 0 := by kernel_rfl
theorem fo46_1 : offB Try.prog 46 1 = some 2 := by kernel_rfl
theorem fo73_0 : offB Try.prog 73 0 = some 0 := by kernel_rfl
theorem fo73_1 : offB Try.prog 73 1 = some 1 := by kernel_rfl
theorem pl39 : partPl Try.prog 39 = some [(0, 1), (1, 1)] := by kernel_rfl
theorem pl85 : partPl Try.prog 85 = some [(0, 1), (1, 1)] := by kernel_rfl
theorem sz36 : sz Try.prog 36 = some 1 := by kernel_rfl
theorem sz39 : sz Try.prog 39 = some 2 := by kernel_rfl
theorem sz85 : sz Try.prog 85 = some 2 := by kernel_rfl
theorem zr39 : zr Try.prog 39 = some ([.int .i64 0] ++ [.string ByteArray.empty]) := by kernel_rfl
theorem zr85 : zr Try.prog 85 = some ([.int .i64 0] ++ [.slice none 0 0]) := by kernel_rfl
end TJtM
open TJtM
theorem journal_Journal_Put_v3_ok {G : Gh} {w : World} (hS : St G w) (hg : GL G) {d0 : Nat} {z0 : journal_Journal} {au : Option Addr} {av : Nat} {d1 : Nat} {z1 : List (Int × Int)} (ag : MTok G G w d1 z1) {d2 : Nat} {z2 : disk_Disk} {a9 : Option Addr} {ba : Nat} {bc : Option Addr} {bd : Nat} {be : Option Addr} {bf : Nat} (ah : Tok G w d2 53 ([.slice a9 z2.files_.e0_.length ba, .slice bc z2.files_.e1_.length bd, .slice be z2.files_.e2_.length bf, vi z2.room_, .bool z2.off_, .bool z2.armed_, vi z2.left_])) (ay : z2.files_.e0_.length ≤ ba) (ab : Sl G a9 z2.files_.e0_) (az : z2.files_.e1_.length ≤ bd) (ac : Sl G bc z2.files_.e1_) (a4 : z2.files_.e2_.length ≤ bf) (ad : Sl G be z2.files_.e2_) (ae : Tok G w d0 46 ([.slice au z0.book_.l_.length av, .map (some d1), .pointer (some ⟨d2, 0, none⟩), vi z0.gen_, vi z0.place_])) (ao : z0.book_.l_.length ≤ av) (aa : Sl G au z0.book_.l_) {x1 : Int} {A2 : Option Addr} {c2 B2 : Nat} {x2 : List UInt8} (ho2 : OwnS B2 5 Gh.no G w A2 c2 x2) {Q : Int → journal_Journal → (List (Int × Int)) → disk_Disk → Prop} (h : journal_Journal_Put_v3 z0 z1 z2 x1 x2 Q) : Calls Try.prog 15 #[.pointer (some ⟨d0, 0, none⟩), vi x1, .slice A2 x2.length c2] w fun e w2 => ∃ (r0 : Int) (y0 : journal_Journal) (cw : Option Addr) (cx : Nat) (y1 : List (Int × Int)) (y2 : disk_Disk) (cy : Option Addr) (cz : Nat) (c5 : Option Addr) (c6 : Nat) (c7 : Option Addr) (c8 : Nat) (L H : Gh), e = .returned (vi r0) ∧ Inv [d0, d1, d2] G w L H w2 ∧ Tok H w2 d0 46 ([.slice cw y0.book_.l_.length cx, .map (some d1), .pointer (some ⟨d2, 0, none⟩), vi y0.gen_, vi y0.place_]) ∧ y0.book_.l_.length ≤ cx ∧ Sl H cw y0.book_.l_ ∧ MTok H H w2 d1 y1 ∧ Tok H w2 d2 53 ([.slice cy y2.files_.e0_.length cz, .slice c5 y2.files_.e1_.length c6, .slice c7 y2.files_.e2_.length c8, vi y2.room_, .bool y2.off_, .bool y2.armed_, vi y2.left_]) ∧ y2.files_.e0_.length ≤ cz ∧ Sl H cy y2.files_.e0_ ∧ y2.files_.e1_.length ≤ c6 ∧ Sl H c5 y2.files_.e1_ ∧ y2.files_.e2_.length ≤ c8 ∧ Sl H c7 y2.files_.e2_ ∧ Q r0 y0 y1 y2 := by
 unfold journal_Journal_Put_v3 at h
 have hI := Inv.start (M := [d0, d1, d2]) hS
 refine calls_W 48 Try.func15 rfl Try.ntmps15 rfl [.tmp 6] rfl ?_
 have cc := ae.blk.lt
 have cd := ag.lt
 have ce := ah.blk.lt
 refine W_seq_k fun K1 k1 => ?_
 refine W_region [6] rfl (Ops_step (R_assign rfl) rfl rfl ?_)
 refine Ops_nil ?_
 refine then_n (k1 _ _ ?_)
 clear k1 K1
 refine W_seq_k fun K2 k2 => ?_
 refine W_block ?_
 refine W_seq_k fun K3 k3 => ?_
 refine W_region [10, 11, 9] rfl (Ops_step (R_move rfl) rfl rfl ?_)
 refine Ops_call (C_func bd39 rfl) rfl rfl ?_
 refine (journal_Journal_dead_ok (z0 := z0) (z1 := z1) (z2 := z2) hI.st (hg.up hI.le) ag ah ay ab az ac a4 ad ae ao aa h).mono ?_
 rintro _ ft ⟨ew, fu, eh, rfl, dn, h⟩
 refine Exists.elim (hI.call dn (by simp)) fun dp ea => ?_
 have ex := hI.size
 replace hI := ea.1
 have cp := ea.2.1
 have ec := ea.2.2
 clear ea
 replace aa := aa.up cp.hh
 replace ag := ag.up cp.hh cp (by simp)
 replace ab := ab.up cp.hh
 replace ac := ac.up cp.hh
 replace ad := ad.up cp.hh
 replace ah := ah.up cp (by simp)
 replace ae := ae.up cp (by simp)
 replace ho2 := ho2.up (Le.refl _) cp (by simp)
 clear dn cp ec
 refine ⟨_, rfl, ?_⟩
 refine Ops_step (R_assign rfl) rfl rfl ?_
 refine Ops_nil ?_
 refine then_n (k3 _ _ ?_)
 clear k3 K3
 refine W_cond rfl (fun dg => ?_) (fun dg => ?_)
 ·
  replace h := h.1 dg
  refine W_seq_k fun K6 k6 => ?_
  refine W_region [6] rfl (Ops_step (R_assign rfl) rfl rfl ?_)
  refine Ops_nil ?_
  refine then_n (k6 _ _ ?_)
  clear k6 K6
  refine W_keepB [6] fun B_ b_ => ?_
  simp only [e_, Nat.reduceAdd, Nat.reduceBEq] at b_
  subst b_
  refine W_ret ?_
  refine block_ret ?_
  refine then_ret ?_
  clear k2 K2
  refine ⟨_, ⟨_, _, rfl, rfl, rfl⟩, ?_⟩
  exact ⟨6, z0, au, av, z1, z2, a9, ba, bc, bd, be, bf, _, _, rfl, hI, ae, ao, aa, ag, ah, ay, ab, az, ac, a4, ad, h⟩
 ·
  replace h := h.2 dg
  refine ex_ h fun ey dh h => ?_
  refine W_seq_join [0, 1, 2] [12] (fun vals_ w2 => ∃ (bz : Bool) (L H : Gh), vals_ = [.bool bz] ∧ ey bz ∧ Inv [d0, d1, d2] G w L H w2 ∧ Le dp L ∧ Le eh H ∧ MTok H H w2 d1 z1 ∧ Tok H w2 d2 53 ([.slice a9 z2.files_.e0_.length ba, .slice bc z2.files_.e1_.length bd, .slice be z2.files_.e2_.length bf, vi z2.room_, .bool z2.off_, .bool z2.armed_, vi z2.left_]) ∧ Tok H w2 d0 46 ([.slice au z0.book_.l_.length av, .map (some d1), .pointer (some ⟨d2, 0, none⟩), vi z0.gen_, vi z0.place_]) ∧ OwnS B2 5 Gh.no H w2 A2 c2 x2 ∧ True) (fun B_ b_ => ?_) (fun B_ b_ => ?_)
  ·
   simp only [e_, Nat.reduceAdd, Nat.reduceBEq] at b_
   subst b_
   clear dh
   have cf := Le.refl dp
   have a5 := Le.refl eh
   refine W_region [13, 14, 15, 16, 17, 18, 12] rfl (Ops_step (R_move rfl) rfl rfl (Ops_step (R_lss rfl rfl) rfl rfl (Ops_step (R_move rfl) rfl rfl ?_)))
   refine Ops_split 15 rfl (fun di => ?_) (fun di => ?_)
   ·
    replace h := h.1 di
    refine Ops_pass rfl rfl (Ops_pass rfl rfl (Ops_step (R_pick_true rfl rfl) rfl rfl (Ops_step (R_assign rfl) rfl rfl ?_)))
    refine Ops_nil ?_
    refine then_n ?_
    exact ⟨_, rfl, ⟨true, _, _, rfl, h, hI, cf, a5, ag, ah, ae, ho2, trivial⟩, ⟨rfl, rfl, rfl, trivial⟩⟩
   ·
    replace h := h.2 di
    refine Ops_step (R_move rfl) rfl rfl (Ops_step (R_geq rfl rfl) rfl rfl (Ops_step (R_pick_false rfl rfl) rfl rfl (Ops_step (R_assign rfl) rfl rfl ?_)))
    refine Ops_nil ?_
    refine then_n ?_
    exact ⟨_, rfl, ⟨(decide (x1 ≥ 32)), _, _, rfl, h, hI, cf, a5, ag, ah, ae, ho2, trivial⟩, ⟨rfl, rfl, rfl, trivial⟩⟩
  ·
   simp only [e_, Nat.reduceAdd, Nat.reduceBEq] at b_
   subst b_
   clear h
   clear ho2
   clear ae
   clear ag
   clear ah
   rintro _ fv ⟨bz, fw, fx, rfl, dq, dr, cf, a5, ag, ah, ae, ho2, -⟩
   replace hI := dr
   clear dr
   have h := dh bz dq
   clear dh dq
   replace aa := aa.up a5
   replace ab := ab.up a5
   replace ac := ac.up a5
   replace ad := ad.up a5
   refine W_cond rfl (fun cg => ?_) (fun cg => ?_)
   ·
    replace h := h.1 cg
    refine W_seq_k fun K11 k11 => ?_
    refine W_region [6] rfl (Ops_step (R_assign rfl) rfl rfl ?_)
    refine Ops_nil ?_
    refine then_n (k11 _ _ ?_)
    clear k11 K11
    refine W_ret ?_
    refine block_ret ?_
    refine then_ret ?_
    clear k2 K2
    refine ⟨_, ⟨_, _, rfl, rfl, rfl⟩, ?_⟩
    exact ⟨10, z0, au, av, z1, z2, a9, ba, bc, bd, be, bf, _, _, rfl, hI, ae, ao, aa, ag, ah, ay, ab, az, ac, a4, ad, h⟩
   ·
    replace h := h.2 cg
    refine W_seq_k fun K12 k12 => ?_
    refine W_region [20, 21, 22, 19] rfl (Ops_step (R_move rfl) rfl rfl (Ops_step (R_len Try.underlying29 rfl rfl) rfl rfl (Ops_step (R_gtr rfl rfl) rfl rfl (Ops_step (R_assign rfl) rfl rfl ?_))))
    refine Ops_nil ?_
    refine then_n (k12 _ _ ?_)
    clear k12 K12
    refine W_if rfl (fun ci => ?_) (fun ci => ?_)
    ·
     replace h := h.1 ci
     refine W_seq_k fun K14 k14 => ?_
     refine W_region [6] rfl (Ops_step (R_assign rfl) rfl rfl ?_)
     refine Ops_nil ?_
     refine then_n (k14 _ _ ?_)
     clear k14 K14
     refine W_keepB [6] fun B_ b_ => ?_
     simp only [e_, Nat.reduceAdd, Nat.reduceBEq] at b_
     subst b_
     refine W_ret ?_
     refine block_ret ?_
     refine then_ret ?_
     clear k2 K2
     refine ⟨_, ⟨_, _, rfl, rfl, rfl⟩, ?_⟩
     exact ⟨4, z0, au, av, z1, z2, a9, ba, bc, bd, be, bf, _, _, rfl, hI, ae, ao, aa, ag, ah, ay, ab, az, ac, a4, ad, h⟩
    ·
     replace h := h.2 ci
     refine W_skip ?_
     refine block_n ?_
     refine then_n (k2 _ _ ?_)
     clear k2 K2
     refine W_seq_k fun K16 k16 => ?_
     refine W_region [23, 24, 25, 26, 7, none] rfl (Ops_step (R_move rfl) rfl rfl (Ops_step (R_move rfl) rfl rfl ?_))
     refine Exists.elim (ho2.lend hI.st (Le.no _)) fun eb ax => ?_
     refine Ops_call (C_func bd32 rfl) rfl rfl ?_
     refine (slices_Clone_sl_byte_byte_ok (x0 := x2) ax.1 (hg.up (hI.le.trans ax.2.1)) ho2.cap ax.2.2 h).mono ?_
     rintro _ ez ⟨b4, b5, b6, e5, e8, rfl, c9, an, h⟩
     refine Exists.elim (hI.callB ax.2.1 c9 (by simp)) fun ei bv => Exists.elim bv fun ej bv => ?_
     have dt := hI.size
     replace hI := bv.1
     have bi := bv.2.1
     have du := bv.2.2.1
     have dv := bv.2.2.2
     clear bv
     replace aa := aa.up bi.hh
     replace ab := ab.up bi.hh
     replace ac := ac.up bi.hh
     replace ad := ad.up bi.hh
     replace ag := ag.up bi.hh bi (by simp)
     replace ah := ah.up bi (by simp)
     replace ae := ae.up bi (by simp)
     replace an := OwnS.backS an dt dv
     clear c9 bi du
     refine ⟨_, rfl, ?_⟩
     refine Exists.elim (an.freeze hI) fun e9 b8 => Exists.elim b8 fun dw b8 => ?_
     replace hI := b8.1
     have bj := b8.2.1
     have aw := b8.2.2.1 (Le.no _)
     have da := an.cap
     replace aa := aa.up bj.hh
     replace ab := ab.up bj.hh
     replace ac := ac.up bj.hh
     replace ad := ad.up bj.hh
     replace ag := ag.up bj.hh bj (an.old cd)
     replace ah := ah.up bj (an.old ce)
     replace ae := ae.up bj (an.old cc)
     clear b8 bj an
     refine Ops_step (R_build (pl := [(0, 1), (1, 1)]) (cs := [vi x1, .slice b4 b6.length b5]) zr85 pl85 rfl rfl rfl) rfl rfl ?_
     have dj := hI
     refine Ops_to (R_alloc zr85) rfl rfl ?_
     rintro _ fa ⟨dk, rfl, cj, db, bm⟩
     replace hI := hI.fr0 bm
     replace ag := ag.fr0 bm
     replace ah := ah.fr0 bm
     replace ae := ae.fr0 bm
     have af : Tok dw _ dk 85 ([vi 0, .slice none 0 0]) := ⟨db.to rfl, Out.ge dj.st (Nat.le_of_eq cj.symm)⟩
     have ck : w.heap.size ≤ dk := cj ▸ dj.size
     clear db cj dj bm
     refine Ops_to0 (R_storeN sz85 rfl rfl rfl af.blk (Nat.le_of_ble_eq_true rfl) rfl) rfl ?_
     rintro _ fb ⟨dc, bn⟩
     replace hI := hI.tok bn (out1 af.out) (new1 ck)
     replace ag := ag.fr bn (ag.neT af)
     replace ah := ah.fr bn (ah.apart af (by decide))
     replace ae := ae.fr bn (ae.apart af (by decide))
     replace af : Tok dw _ dk 85 ([vi x1, .slice b4 b6.length b5]) := ⟨dc, af.out⟩
     clear bn dc
     refine Ops_nil ?_
     refine then_n (k16 _ _ ?_)
     clear k16 K16
     refine W_keepB [0, 7] fun B_ b_ => ?_
     simp only [e_, Nat.reduceAdd, Nat.reduceBEq] at b_
     subst b_
     refine W_seq_k fun K22 k22 => ?_
     refine W_seq_k fun K23 k23 => ?_
     refine W_drawF [27, 28, 29, 30, 31, 32, 33, 34, 35, 36, 37, 38, 39, 8] [(0, true), (1, true), (2, true), (3, true), (4, true), (5, true), (6, true), (7, true), (8, true), (9, true), (10, true), (11, false), (12, false), (13, true)] TJtM.hm rfl (by kernel_rfl) fun ee fc bl bg => ?_
     replace hI := hI.fr0 bg
     replace ag := ag.fr0 bg
     replace ah := ah.fr0 bg
     replace ae := ae.fr0 bg
     replace af := af.fr0 bg
     clear bg
     refine HSp (R_move rfl) rfl rfl (HSp (R_nilCheck rfl) rfl rfl (HSp (R_fieldAddr fo46_1 rfl) rfl rfl ?_))
     refine HS_loadB (v := .pointer (some ⟨d2, 0, none⟩)) ag25 rfl ae.blk rfl rfl rfl ?_
     refine HSp (R_move rfl) rfl rfl (HSp (R_nilCheck rfl) rfl rfl (HSp (R_fieldAddr fo46_0 rfl) rfl rfl (HSp (R_fieldAddr fo44_0 rfl) rfl rfl ?_)))
     refine HS_loadB (v := .slice au z0.book_.l_.length av) ag41 rfl ae.blk rfl rfl rfl ?_
     refine HSp (R_len Try.underlying41 rfl rfl) rfl rfl ?_
     refine HS_loadN ag85 sz85 rfl af.blk (Nat.le_of_ble_eq_true rfl) rfl rfl ?_
     refine HS_call [3] _ rfl (by rw [bl]; kernel_rfl) (C_func bd41 rfl) rfl rfl ?_
     refine (journal_tell_ok (x0 := (z0.book_.l_.length : Int)) (x1 := (journal_record.mk x1 b6)) hI.st (hg.up hI.le) ⟨b4, b5, rfl, ⟨da, (aw.up hI.sub)⟩⟩ h).mono ?_
     rintro _ fd ⟨ek, en, dx, fe, ff, rfl, dd, am, h⟩
     refine Exists.elim (hI.call dd (by simp)) fun eo cq => ?_
     have dy := hI.size
     replace hI := cq.1
     have a6 := cq.2.1
     have dz := cq.2.2
     clear cq
     replace aa := aa.up a6.hh
     replace ab := ab.up a6.hh
     replace ac := ac.up a6.hh
     replace ad := ad.up a6.hh
     replace ag := ag.up a6.hh a6 (by simp)
     replace ah := ah.up a6 (by simp)
     replace ae := ae.up a6 (by simp)
     replace aw := aw.up a6.ll
     replace af := af.up a6 (by simp)
     replace am := OwnS.backS am dy (Le.refl _)
     clear dd a6 dz
     refine ⟨_, rfl, ⟨(ae.blk.at_ rfl), trivial⟩, ?_⟩
     refine Exists.elim (am.freeze hI) fun fg b9 => Exists.elim b9 fun fh b9 => ?_
     replace hI := b9.1
     have a7 := b9.2.1
     have d5 := b9.2.2.1 (Le.no _)
     have d6 := am.cap
     replace aa := aa.up a7.hh
     replace ab := ab.up a7.hh
     replace ac := ac.up a7.hh
     replace ad := ad.up a7.hh
     replace ag := ag.up a7.hh a7 (am.old cd)
     replace ah := ah.up a7 (am.old ce)
     replace ae := ae.up a7 (am.old cc)
     replace aw := aw.up a7.ll
     replace af := af.up a7 (af.sep am (by decide))
     clear b9 a7 am
     refine HS_call [] _ rfl (by rw [bl]; kernel_rfl) (C_func bd26 rfl) rfl rfl ?_
     refine (disk_Disk_Append_ok (x1 := 0) (x2 := dx) (z0 := z2) hI.st (hg.up hI.le) ah ay ab az ac a4 ad d6 (d5.up hI.sub) h).mono ?_
     rintro _ fi ⟨d7, bw, bo, bp, bq, br, bt, bu, fj, fk, rfl, de, ai, ap, aj, aq, ak, ar, al, h⟩
     refine Exists.elim (hI.call de (mem1 (by simp))) fun ep cr => ?_
     have eq := hI.size
     replace hI := cr.1
     have a8 := cr.2.1
     have d8 := cr.2.2
     clear cr
     replace aa := aa.up a8.hh
     replace ab := ab.up a8.hh
     replace ac := ac.up a8.hh
     replace ad := ad.up a8.hh
     replace ag := ag.up a8.hh a8 (ag.neT ah)
     replace ae := ae.up a8 (ae.apart ah (by decide))
     replace aw := aw.up a8.ll
     replace af := af.up a8 (af.apart ah (by decide))
     clear ah
     clear de a8 d8
     refine ⟨_, rfl, trivial, ?_⟩
     refine HSp (R_assign rfl) rfl rfl ?_
     refine HS_nil ?_
     clear bl
     refine then_n (k23 _ _ ?_)
     clear k23 K23
     refine W_keepB [0, 7, 8] fun B_ b_ => ?_
     simp only [e_, Nat.reduceAdd, Nat.reduceBEq] at b_
     subst b_
     refine W_seq_k fun K29 k29 => ?_
     refine W_region [40, 41] rfl (Ops_step (R_move rfl) rfl rfl (Ops_step (R_neq rfl rfl) rfl rfl ?_))
     refine Ops_nil ?_
     refine then_n (k29 _ _ ?_)
     clear k29 K29
     refine W_if rfl (fun cl => ?_) (fun cl => ?_)
     ·
      replace h := h.1 cl
      refine W_seq_k fun K31 k31 => ?_
      refine W_region [42, 6] rfl (Ops_step (R_move rfl) rfl rfl (Ops_step (R_assign rfl) rfl rfl ?_))
      refine Ops_nil ?_
      refine then_n (k31 _ _ ?_)
      clear k31 K31
      refine W_keepB [6] fun B_ b_ => ?_
      simp only [e_, Nat.reduceAdd, Nat.reduceBEq] at b_
      subst b_
      refine W_ret ?_
      refine then_ret ?_
      clear k22 K22
      refine ⟨_, ⟨_, _, rfl, rfl, rfl⟩, ?_⟩
      exact ⟨d7, z0, au, av, z1, bw, bo, bp, bq, br, bt, bu, _, _, rfl, hI, ae, ao, aa, ag, ai, ap, aj, aq, ak, ar, al, h⟩
     ·
      replace h := h.2 cl
      refine W_skip ?_
      refine then_n (k22 _ _ ?_)
      clear k22 K22
      refine W_seq_k fun K33 k33 => ?_
      refine W_drawF [43, 44, 45, 46, 47] [(0, true), (1, true), (2, true), (3, true), (4, false)] TJtM.hm rfl (by kernel_rfl) fun eg fm b7 bh => ?_
      replace hI := hI.fr0 bh
      replace ag := ag.fr0 bh
      replace ae := ae.fr0 bh
      replace af := af.fr0 bh
      replace ai := ai.fr0 bh
      clear bh
      refine HSp (R_move rfl) rfl rfl (HSp (R_nilCheck rfl) rfl rfl (HSp (R_fieldAddr fo46_0 rfl) rfl rfl ?_))
      refine HS_loadN ag85 sz85 rfl af.blk (Nat.le_of_ble_eq_true rfl) rfl rfl ?_
      refine HS_call [] _ rfl (by rw [b7]; kernel_rfl) (C_func bd43 rfl) rfl rfl ?_
      refine (journal_book_add_ok (x1 := (journal_record.mk x1 b6)) (z0 := z0) (z1 := z1) (z2 := bw) hI.st (hg.up hI.le) ag ai ap aj aq ak ar al ae ao aa ⟨b4, b5, rfl, ⟨da, (aw.up hI.sub)⟩⟩ h).mono ?_
      rintro _ fo ⟨dl, cm, co, dm, fp, fq, rfl, df, ct, ca, cb, cu, h⟩
      refine Exists.elim (hI.call df (memO (by simp) (memO (by simp) memN))) fun et cv => ?_
      have eu := hI.size
      replace hI := cv.1
      have bx := cv.2.1
      have d9 := cv.2.2
      clear cv
      replace aa := aa.up bx.hh
      replace af := af.up bx (niA (af.apart ae (by decide)) (niA (af.neM ag) List.not_mem_nil))
      replace ai := ai.up bx (niA (ai.apart ae (by decide)) (niA (ai.neM ag) List.not_mem_nil))
      replace aj := aj.up bx.hh
      replace ak := ak.up bx.hh
      replace al := al.up bx.hh
      clear ae
      clear ag
      clear df bx d9
      refine ⟨_, rfl, trivial, ?_⟩
      refine HS_nil ?_
      clear b7
      refine then_n (k33 _ _ ?_)
      clear k33 K33
      refine W_keepB [] fun B_ b_ => ?_
      simp only [e_, Nat.reduceAdd, Nat.reduceBEq] at b_
      subst b_
      refine W_seq_k fun K37 k37 => ?_
      refine W_region [6] rfl (Ops_step (R_assign rfl) rfl rfl ?_)
      refine Ops_nil ?_
      refine then_n (k37 _ _ ?_)
      clear k37 K37
      refine W_ret ?_
      refine ⟨_, ⟨_, _, rfl, rfl, rfl⟩, ?_⟩
      exact ⟨0, dl, cm, co, dm, bw, bo, bp, bq, br, bt, bu, _, _, rfl, hI, ct, ca, cb, cu, ai, ap, aj, aq, ak, ar, al, h⟩

theorem sealskinref06_Journal_Put_ok {G : Gh} {w : World} (hS : St G w) (hg : GL G) {d0 : Nat} {z0 : sealskinref06_Journal} {bd : Option Addr} {be : Nat} {d1 : Nat} {z1 : sealskinref05_Disk} {bo : Option Addr} {bp : Nat} {bq : Option Addr} {br : Nat} {bt : Option Addr} {bu : Nat} (au : Tok G w d1 81 ([.slice bo z1.F_.e0_.length bp, .slice bq z1.F_.e1_.length br, .slice bt z1.F_.e2_.length bu, vi z1.Room_, .bool z1.Off_, vi z1.Fuse_])) (cm : z1.F_.e0_.length ≤ bp) (ao : Sl G bo z1.F_.e0_) (co : z1.F_.e1_.length ≤ br) (ap : Sl G bq z1.F_.e1_) (cp : z1.F_.e2_.length ≤ bu) (aq : Sl G bt z1.F_.e2_) (ab : Tok G w d0 73 ([.slice bd z0.L_.length be, .pointer (some ⟨d1, 0, none⟩), vi z0.Gen_, vi z0.File_])) (cq : z0.L_.length ≤ be) (ae : Sl G bd z0.L_) {x1 : Int} {A2 : Option Addr} {c2 : Nat} {x2 : List UInt8} (hc2 : x2.length ≤ c2) (hs2 : Sl G A2 x2) {Q : Int → sealskinref06_Journal → sealskinref05_Disk → Prop} (h : sealskinref06_Journal_Put z0 z1 x1 x2 Q) : Calls Try.prog 37 #[.pointer (some ⟨d0, 0, none⟩), vi x1, .slice A2 x2.length c2] w fun e w2 => ∃ (r0 : Int) (y0 : sealskinref06_Journal) (dt : Option Addr) (du : Nat) (y1 : sealskinref05_Disk) (dv : Option Addr) (dw : Nat) (dx : Option Addr) (dy : Nat) (dz : Option Addr) (d5 : Nat) (L H : Gh), e = .returned (vi r0) ∧ Inv [d0, d1] G w L H w2 ∧ Tok H w2 d0 73 ([.slice dt y0.L_.length du, .pointer (some ⟨d1, 0, none⟩), vi y0.Gen_, vi y0.File_]) ∧ y0.L_.length ≤ du ∧ Sl H dt y0.L_ ∧ Tok H w2 d1 81 ([.slice dv y1.F_.e0_.length dw, .slice dx y1.F_.e1_.length dy, .slice dz y1.F_.e2_.length d5, vi y1.Room_, .bool y1.Off_, vi y1.Fuse_]) ∧ y1.F_.e0_.length ≤ dw ∧ Sl H dv y1.F_.e0_ ∧ y1.F_.e1_.length ≤ dy ∧ Sl H dx y1.F_.e1_ ∧ y1.F_.e2_.length ≤ d5 ∧ Sl H dz y1.F_.e2_ ∧ Q r0 y0 y1 := by
 unfold sealskinref06_Journal_Put at h
 have hI := Inv.start (M := [d0, d1]) hS
 refine calls_W 49 Try.func37 rfl Try.ntmps37 rfl [.tmp 6] rfl ?_
 have aw := ab.blk.lt
 have ax := au.blk.lt
 refine W_seq_k fun K1 k1 => ?_
 refine W_region [6] rfl (Ops_step (R_assign rfl) rfl rfl ?_)
 refine Ops_nil ?_
 refine then_n (k1 _ _ ?_)
 clear k1 K1
 refine W_seq_k fun K2 k2 => ?_
 refine ex_ h fun f9 ej h => ?_
 refine W_seq_join [0, 1, 2] [14] (fun vals_ w2 => ∃ (cz : Bool) (L H : Gh), vals_ = [.bool cz] ∧ f9 cz ∧ Inv [d0, d1] G w L H w2 ∧ Le Gh.no L ∧ Le G H ∧ Tok H w2 d1 81 ([.slice bo z1.F_.e0_.length bp, .slice bq z1.F_.e1_.length br, .slice bt z1.F_.e2_.length bu, vi z1.Room_, .bool z1.Off_, vi z1.Fuse_]) ∧ Tok H w2 d0 73 ([.slice bd z0.L_.length be, .pointer (some ⟨d1, 0, none⟩), vi z0.Gen_, vi z0.File_]) ∧ True) (fun B_ b_ => ?_) (fun B_ b_ => ?_)
 ·
  simp only [e_, Nat.reduceAdd, Nat.reduceBEq] at b_
  subst b_
  clear ej
  have de := Le.refl Gh.no
  have bf := Le.refl G
  refine W_region [9, 10, 11, 12, 13, 14] rfl (Ops_step (R_move rfl) rfl rfl (Ops_step (R_lss rfl rfl) rfl rfl (Ops_step (R_move rfl) rfl rfl ?_)))
  refine Ops_split 11 rfl (fun ek => ?_) (fun ek => ?_)
  ·
   replace h := h.1 ek
   refine Ops_pass rfl rfl (Ops_pass rfl rfl (Ops_step (R_pick_true rfl rfl) rfl rfl ?_))
   refine Ops_nil ?_
   refine then_n ?_
   exact ⟨_, rfl, ⟨true, _, _, rfl, h, hI, de, bf, au, ab, trivial⟩, ⟨rfl, rfl, rfl, trivial⟩⟩
  ·
   replace h := h.2 ek
   refine Ops_step (R_move rfl) rfl rfl (Ops_step (R_gtr rfl rfl) rfl rfl (Ops_step (R_pick_false rfl rfl) rfl rfl ?_))
   refine Ops_nil ?_
   refine then_n ?_
   exact ⟨_, rfl, ⟨(decide (x1 > 31)), _, _, rfl, h, hI, de, bf, au, ab, trivial⟩, ⟨rfl, rfl, rfl, trivial⟩⟩
 ·
  simp only [e_, Nat.reduceAdd, Nat.reduceBEq] at b_
  subst b_
  clear h
  clear ab
  clear au
  rintro _ gr ⟨cz, gt, fw, rfl, ey, ez, de, bf, au, ab, -⟩
  replace hI := ez
  clear ez
  have h := ej cz ey
  clear ej ey
  replace ae := ae.up bf
  replace ao := ao.up bf
  replace ap := ap.up bf
  replace aq := aq.up bf
  replace hs2 := hs2.up bf
  refine W_cond rfl (fun en => ?_) (fun en => ?_)
  ·
   replace h := h.1 en
   refine W_seq_k fun K6 k6 => ?_
   refine W_region [6] rfl (Ops_step (R_assign rfl) rfl rfl ?_)
   refine Ops_nil ?_
   refine then_n (k6 _ _ ?_)
   clear k6 K6
   refine W_ret ?_
   refine then_ret ?_
   clear k2 K2
   refine ⟨_, ⟨_, _, rfl, rfl, rfl⟩, ?_⟩
   exact ⟨10, z0, bd, be, z1, bo, bp, bq, br, bt, bu, _, _, rfl, hI, ab, cq, ae, au, cm, ao, co, ap, cp, aq, h⟩
  ·
   replace h := h.2 en
   refine W_skip ?_
   refine then_n (k2 _ _ ?_)
   clear k2 K2
   refine W_seq_k fun K7 k7 => ?_
   refine W_seq_k fun K8 k8 => ?_
   refine W_region [15, 16, 17] rfl (Ops_step (R_move rfl) rfl rfl (Ops_step (R_len Try.underlying29 rfl rfl) rfl rfl (Ops_step (R_gtr rfl rfl) rfl rfl ?_)))
   refine Ops_nil ?_
   refine then_n (k8 _ _ ?_)
   clear k8 K8
   refine W_if rfl (fun eo => ?_) (fun eo => ?_)
   ·
    replace h := h.1 eo
    refine W_seq_k fun K10 k10 => ?_
    refine W_region [6] rfl (Ops_step (R_assign rfl) rfl rfl ?_)
    refine Ops_nil ?_
    refine then_n (k10 _ _ ?_)
    clear k10 K10
    refine W_keepB [6] fun B_ b_ => ?_
    simp only [e_, Nat.reduceAdd, Nat.reduceBEq] at b_
    subst b_
    refine W_ret ?_
    refine then_ret ?_
    clear k7 K7
    refine ⟨_, ⟨_, _, rfl, rfl, rfl⟩, ?_⟩
    exact ⟨4, z0, bd, be, z1, bo, bp, bq, br, bt, bu, _, _, rfl, hI, ab, cq, ae, au, cm, ao, co, ap, cp, aq, h⟩
   ·
    replace h := h.2 eo
    refine W_skip ?_
    refine then_n (k7 _ _ ?_)
    clear k7 K7
    refine W_seq_k fun K12 k12 => ?_
    refine W_region [18, 19, 20, 21, 7, none] rfl (Ops_step (R_move rfl) rfl rfl (Ops_step (R_move rfl) rfl rfl ?_))
    refine Ops_step (X_bytesStr (bs := x2) Try.underlying29 Try.underlying5 Try.underlying9 rfl rfl (hs2.fz.rd hI.st)) rfl rfl ?_
    refine Ops_step (R_build (pl := [(0, 1), (1, 1)]) (cs := [vi x1, vs (Str.mk x2)]) zr39 pl39 rfl rfl rfl) rfl rfl ?_
    have ep := hI
    refine Ops_to (R_alloc zr39) rfl rfl ?_
    rintro _ ga ⟨bh, rfl, df, d6, c5⟩
    replace hI := hI.fr0 c5
    replace au := au.fr0 c5
    replace ab := ab.fr0 c5
    have ac : Tok fw _ bh 39 ([vi 0, vs (Str.mk [])]) := ⟨d6.to rfl, Out.ge ep.st (Nat.le_of_eq df.symm)⟩
    have dg : w.heap.size ≤ bh := df ▸ ep.size
    clear d6 df ep c5
    refine Ops_to0 (R_storeN sz39 rfl rfl rfl ac.blk (Nat.le_of_ble_eq_true rfl) rfl) rfl ?_
    rintro _ gb ⟨d7, c6⟩
    replace hI := hI.tok c6 (out1 ac.out) (new1 dg)
    replace au := au.fr c6 (au.apart ac (by decide))
    replace ab := ab.fr c6 (ab.apart ac (by decide))
    replace ac : Tok fw _ bh 39 ([vi x1, vs (Str.mk x2)]) := ⟨d7, ac.out⟩
    clear c6 d7
    refine Ops_nil ?_
    refine then_n (k12 _ _ ?_)
    clear k12 K12
    refine W_keepB [0, 7] fun B_ b_ => ?_
    simp only [e_, Nat.reduceAdd, Nat.reduceBEq] at b_
    subst b_
    refine W_seq_k fun K16 k16 => ?_
    refine W_drawF [22, 23, 24, 25, 26, 27, 28, 29, 30, 31, 32, 33, 8] [(0, true), (1, true), (2, true), (3, true), (4, true), (5, true), (6, true), (7, true), (8, true), (9, true), (10, false), (11, false), (12, true)] TJtM.hm rfl (by kernel_rfl) fun fp gc bn bv => ?_
    replace hI := hI.fr0 bv
    replace au := au.fr0 bv
    replace ab := ab.fr0 bv
    replace ac := ac.fr0 bv
    clear bv
    refine HSp (R_move rfl) rfl rfl (HSp (R_nilCheck rfl) rfl rfl (HSp (R_fieldAddr fo73_1 rfl) rfl rfl ?_))
    refine HS_loadB (v := .pointer (some ⟨d1, 0, none⟩)) ag64 rfl ab.blk rfl rfl rfl ?_
    refine HSp (R_move rfl) rfl rfl (HSp (R_nilCheck rfl) rfl rfl (HSp (R_fieldAddr fo73_0 rfl) rfl rfl ?_))
    refine HS_loadB (v := .slice bd z0.L_.length be) ag36 rfl ab.blk rfl rfl rfl ?_
    refine HSp (R_len Try.underlying36 rfl rfl) rfl rfl ?_
    refine HS_loadN ag39 sz39 rfl ac.blk (Nat.le_of_ble_eq_true rfl) rfl rfl ?_
    refine HS_call [3] _ rfl (by rw [bn]; kernel_rfl) (C_func bd62 rfl) rfl rfl ?_
    refine (sealskinref06_Tell_ok (x0 := (z0.L_.length : Int)) (x1 := (sealskinref06_Record.mk x1 (Str.mk x2))) hI.st (hg.up hI.le) rfl h).mono ?_
    rintro _ gf ⟨fx, fy, e5, gg, gh, rfl, d8, a5, h⟩
    refine Exists.elim (hI.call d8 (by simp)) fun f0 dp => ?_
    have e8 := hI.size
    replace hI := dp.1
    have bw := dp.2.1
    have e9 := dp.2.2
    clear dp
    replace ae := ae.up bw.hh
    replace ao := ao.up bw.hh
    replace ap := ap.up bw.hh
    replace aq := aq.up bw.hh
    replace au := au.up bw (by simp)
    replace ab := ab.up bw (by simp)
    replace ac := ac.up bw (by simp)
    replace a5 := OwnS.backS a5 e8 (Le.refl _)
    clear d8 bw e9
    refine ⟨_, rfl, ⟨(ab.blk.at_ rfl), trivial⟩, ?_⟩
    refine Exists.elim (a5.freeze hI) fun gi c7 => Exists.elim c7 fun gj c7 => ?_
    replace hI := c7.1
    have bx := c7.2.1
    have fa := c7.2.2.1 (Le.no _)
    have fb := a5.cap
    replace ae := ae.up bx.hh
    replace ao := ao.up bx.hh
    replace ap := ap.up bx.hh
    replace aq := aq.up bx.hh
    replace au := au.up bx (a5.old ax)
    replace ab := ab.up bx (a5.old aw)
    replace ac := ac.up bx (ac.sep a5 (by decide))
    clear c7 bx a5
    refine HS_call [] _ rfl (by rw [bn]; kernel_rfl) (C_func bd27 rfl) rfl rfl ?_
    refine (sealskinref05_Disk_Append_ok (x1 := 0) (x2 := e5) (z0 := z1) hI.st (hg.up hI.le) au cm ao co ap cp aq fb (fa.up hI.sub) h).mono ?_
    rintro _ gk ⟨fc, a9, bz, b4, b5, b6, b7, b8, gl, cr, rfl, d9, aa, c8, af, c9, ag, da, ah, h⟩
    refine Exists.elim (hI.call d9 (mem1 (by simp))) fun bi dq => ?_
    have f8 := hI.size
    replace hI := dq.1
    have ct := dq.2.1
    have fd := dq.2.2
    clear dq
    replace ae := ae.up ct.hh
    replace ao := ao.up ct.hh
    replace ap := ap.up ct.hh
    replace aq := aq.up ct.hh
    replace ab := ab.up ct (ab.apart au (by decide))
    replace ac := ac.up ct (ac.apart au (by decide))
    clear au
    clear d9 ct fd
    refine ⟨_, rfl, trivial, ?_⟩
    refine HSp (R_assign rfl) rfl rfl ?_
    refine HS_nil ?_
    clear bn
    refine then_n (k16 _ _ ?_)
    clear k16 K16
    refine W_keepB [0, 7, 8] fun B_ b_ => ?_
    simp only [e_, Nat.reduceAdd, Nat.reduceBEq] at b_
    subst b_
    refine ex_ h fun fq dh h => ?_
    refine W_seq_join [8] [] (fun vals_ w2 => ∃ (a4 : sealskinref06_Journal) (ba : Option Addr) (bc : Nat) (L H : Gh), vals_ = [] ∧ fq a4 ∧ Inv [d0, d1] G w L H w2 ∧ Le bi L ∧ Le cr H ∧ Tok H w2 d0 73 ([.slice ba a4.L_.length bc, .pointer (some ⟨d1, 0, none⟩), vi a4.Gen_, vi a4.File_]) ∧ a4.L_.length ≤ bc ∧ Sl H ba a4.L_ ∧ Tok H w2 d1 81 ([.slice bz a9.F_.e0_.length b4, .slice b5 a9.F_.e1_.length b6, .slice b7 a9.F_.e2_.length b8, vi a9.Room_, .bool a9.Off_, vi a9.Fuse_]) ∧ True) (fun B_ b_ => ?_) (fun B_ b_ => ?_)
    ·
     simp only [e_, Nat.reduceAdd, Nat.reduceBEq] at b_
     subst b_
     clear dh
     have ar := Le.refl bi
     have ak := Le.refl cr
     refine W_seq_k fun K23 k23 => ?_
     refine W_region [34, 35] rfl (Ops_step (R_move rfl) rfl rfl (Ops_step (R_eql rfl rfl) rfl rfl ?_))
     refine Ops_nil ?_
     refine then_n (k23 _ _ ?_)
     clear k23 K23
     refine W_if rfl (fun di => ?_) (fun di => ?_)
     ·
      replace h := h.1 di
      refine W_drawS [36, 37, 38, 39, 40, 41, 42, 43, 44, 45, 46, 47, none] (.q 0 (.q 2 (.q 3 (.q 4 (.q 5 (.q 7 (.two 1 (.two 6 (.l 8 (.l 9 (.q 10 (.q 11 (.l 12 .done))))) 8 (.l 6 (.l 9 (.q 10 (.q 11 (.l 12 .done)))))) 8 (.l 1 (.l 6 (.l 9 (.q 10 (.q 11 (.l 12 .done))))))))))))) TJtM.hm rfl (by kernel_rfl) fun ft gm ad b9 => ?_
      replace hI := hI.fr0 b9
      replace ab := ab.fr0 b9
      replace ac := ac.fr0 b9
      replace aa := aa.fr0 b9
      clear b9
      refine HSp (R_move rfl) rfl rfl (HSp (R_move rfl) rfl rfl (HSp (R_nilCheck rfl) rfl rfl (HSp (R_fieldAddr fo73_0 rfl) rfl rfl ?_)))
      refine HS_loadB (v := .slice bd z0.L_.length be) ag36 rfl ab.blk rfl rfl rfl ?_
      refine HS_loadN ag39 sz39 rfl ac.blk (Nat.le_of_ble_eq_true rfl) rfl rfl ?_
      refine HS_two ?_ ?_
      ·
       have cu := ac.blk.lt
       refine Stp_to [7, 5] _ rfl (by rw [ad]; kernel_rfl) (R_buildSlice0 el36) rfl rfl ?_
       rintro _ fu ⟨cv, rfl, dj, ca, a6⟩
       have ai : OwnS w.heap.size 39 bi cr _ (some ⟨cv, 0, none⟩) 0 ([] : List sealskinref06_Record) := OwnS.ofBlk (css := []) hI.st dj ca .nil rfl (by have := hI.size; omega) (by show 0 ≤ maxLen; decide)
       replace hI := hI.fr0 a6
       replace ab := ab.fr0 a6
       replace ac := ac.fr0 a6
       replace aa := aa.fr0 a6
       clear a6 ca
       have cw : ∀ i_ ∈ bk (some ⟨cv, 0, none⟩) 0, i_ ∉ [bh] := fun i_ hi_ hm_ => by have h_ := (fun i_ hi_ => by have := (bk_of hi_).1; simp only [blkOf, List.mem_singleton] at this; omega) i_ hi_; rw [List.mem_singleton] at hm_; omega
       refine ⟨⟨ac.blk, (ab.blk.at_ rfl), trivial⟩, ?_⟩
       refine HS_two ?_ ?_
       ·
        have fe := h.1
        replace h := h.2
        have cx := ac.blk.lt
        refine Stp_to [7] _ rfl (by rw [ad]; kernel_rfl) (X_append (α := sealskinref06_Record) (xs := ([] : List sealskinref06_Record)) (ys := z0.L_) el36 rfl rfl (ai.hl hI.sub) (Srcs.ofSl Try.underlying36 ae hI.st (by decide)) hI.st fe (by decide) hI.size) rfl rfl ?_
        rintro _ ff ⟨fg, fh, rfl, aj, am, dk⟩
        have cy : ∀ i_ ∈ bk fg fh, i_ ∉ [bh] := sep_app (An := some ⟨bh, 0, none⟩) (cn := 1) dk (by simp [bk]) (fun i_ hi_ => by rw [show bk (some ⟨bh, 0, none⟩) 1 = [bh] from rfl, List.mem_singleton] at hi_; omega)
        clear dk
        replace hI := hI.tok am ai.out (ai.new (Nat.le_refl _))
        replace ab := ab.fr am (ai.old aw)
        replace ac := ac.fr am (sep_tok (by simp [bk]))
        replace aa := aa.fr am (ai.old ax)
        clear am ai
        refine ⟨⟨ac.blk, trivial⟩, ?_⟩
        have cb := aj.lt
        have eq := ac.blk.lt
        refine HS_to [] _ rfl (by rw [ad]; kernel_rfl) (R_buildSlice el36 zr39 (by decide) (by decide) rfl rfl) rfl rfl ?_
        rintro _ gn ⟨et, rfl, fi, ea, bm⟩
        have fj : OwnS w.heap.size 39 bi cr _ (some ⟨et, 0, none⟩) 1 ([(sealskinref06_Record.mk x1 (Str.mk x2))] : List sealskinref06_Record) := OwnS.ofBlk (css := [[vi x1, vs (Str.mk x2)]]) hI.st fi ea (.cons rfl .nil) rfl (by have := hI.size; omega) (by show 1 ≤ maxLen; decide)
        replace hI := hI.fr0 bm
        replace ab := ab.fr0 bm
        replace ac := ac.fr0 bm
        replace aa := aa.fr0 bm
        replace aj := aj.fr0 bm
        clear bm ea
        have eb : ∀ i ∈ bk (some ⟨et, 0, none⟩) 1, i ∉ bk fg fh := sep_new (fun i_ hi_ => by have := (bk_of hi_).1; simp only [blkOf, List.mem_singleton] at this; omega) cb
        have eu : ∀ i_ ∈ bk (some ⟨et, 0, none⟩) 1, i_ ∉ [bh] := fun i_ hi_ hm_ => by have h_ := (fun i_ hi_ => by have := (bk_of hi_).1; simp only [blkOf, List.mem_singleton] at this; omega) i_ hi_; rw [List.mem_singleton] at hm_; omega
        refine ⟨trivial, ?_⟩
        have cc := h.1
        replace h := h.2
        refine HS_to [] _ rfl (by rw [ad]; kernel_rfl) (X_append (α := sealskinref06_Record) (xs := (([] : List sealskinref06_Record) ++ z0.L_)) (ys := ([(sealskinref06_Record.mk x1 (Str.mk x2))] : List sealskinref06_Record)) el36 rfl rfl aj ((Srcs.ofOwn Try.underlying36 fj (by decide)).up hI.sub) hI.st cc (by decide) hI.size) rfl rfl ?_
        rintro _ fk ⟨cd, ce, rfl, an, av, bj⟩
        clear bj
        replace hI := hI.tok av aj.out (aj.new (Nat.le_refl _))
        replace ab := ab.fr av (aj.old aw)
        replace aa := aa.fr av (aj.old ax)
        clear av aj
        refine ⟨trivial, ?_⟩
        refine HSp (R_nilCheck rfl) rfl rfl (HSp (R_fieldAddr fo73_0 rfl) rfl rfl ?_)
        refine Exists.elim (an.freeze hI) fun fm ay => Exists.elim ay fun dl ay => ?_
        replace hI := ay.1
        have al := ay.2.1
        have cf := ay.2.2.2 (Le.refl _)
        have cg := an.cap
        replace ae := ae.up al.hh
        replace ab := ab.up al (an.old aw)
        replace aa := aa.up al (an.old ax)
        replace af := af.up al.hh
        replace ag := ag.up al.hh
        replace ah := ah.up al.hh
        replace ar := ar.trans al.ll
        replace ak := ak.trans al.hh
        clear ay al an
        refine HS_to0 [] _ rfl (by rw [ad]; kernel_rfl) (R_store sz36 rfl rfl ab.blk (by show 0 < 4; decide) rfl) rfl ?_
        rintro _ fo ⟨bg, a7⟩
        replace hI := hI.tok a7 (out1 ab.out) (mem1 (by simp))
        replace aa := aa.fr a7 (aa.apart ab (by decide))
        replace ab : Tok dl _ d0 73 ([.slice cd (((([] : List sealskinref06_Record) ++ z0.L_) ++ ([(sealskinref06_Record.mk x1 (Str.mk x2))] : List sealskinref06_Record)).length) ce, .pointer (some ⟨d1, 0, none⟩), vi z0.Gen_, vi z0.File_]) := ⟨bg, ab.out⟩
        clear a7 bg
        refine ⟨trivial, ?_⟩
        refine HS_nil ?_
        clear ad
        refine then_n ?_
        exact ⟨_, rfl, ⟨(sealskinref06_Journal.mk ((([] : List sealskinref06_Record) ++ z0.L_) ++ ([(sealskinref06_Record.mk x1 (Str.mk x2))] : List sealskinref06_Record)) z0.Gen_ z0.File_), cd, ce, _, _, rfl, h, hI, ar, ak, ab, cg, cf, aa, trivial⟩, ⟨rfl, trivial⟩⟩
       ·
        have cx := ac.blk.lt
        refine Stp_to [5] _ rfl (by rw [ad]; kernel_rfl) (R_buildSlice el36 zr39 (by decide) (by decide) rfl rfl) rfl rfl ?_
        rintro _ ff ⟨db, rfl, dm, ci, am⟩
        have aj : OwnS w.heap.size 39 bi cr _ (some ⟨db, 0, none⟩) 1 ([(sealskinref06_Record.mk x1 (Str.mk x2))] : List sealskinref06_Record) := OwnS.ofBlk (css := [[vi x1, vs (Str.mk x2)]]) hI.st dm ci (.cons rfl .nil) rfl (by have := hI.size; omega) (by show 1 ≤ maxLen; decide)
        replace hI := hI.fr0 am
        replace ab := ab.fr0 am
        replace ac := ac.fr0 am
        replace aa := aa.fr0 am
        replace ai := ai.fr0 am
        clear am ci
        have cy : ∀ i_ ∈ bk (some ⟨db, 0, none⟩) 1, i_ ∉ [bh] := fun i_ hi_ hm_ => by have h_ := (fun i_ hi_ => by have := (bk_of hi_).1; simp only [blkOf, List.mem_singleton] at this; omega) i_ hi_; rw [List.mem_singleton] at hm_; omega
        refine ⟨⟨(ab.blk.at_ rfl), trivial⟩, ?_⟩
        have dn := h.1
        replace h := h.2
        have cj := aj.lt
        refine HS_to [] _ rfl (by rw [ad]; kernel_rfl) (X_append (α := sealskinref06_Record) (xs := ([] : List sealskinref06_Record)) (ys := z0.L_) el36 rfl rfl (ai.hl hI.sub) (Srcs.ofSl Try.underlying36 ae hI.st (by decide)) hI.st dn (by decide) hI.size) rfl rfl ?_
        rintro _ fv ⟨ew, ex, rfl, az, a8, bl⟩
        have ec : ∀ i ∈ bk ew ex, i ∉ bk (some ⟨db, 0, none⟩) 1 := sep_app bl sep_zero cj
        clear bl
        replace hI := hI.tok a8 ai.out (ai.new (Nat.le_refl _))
        replace ab := ab.fr a8 (ai.old aw)
        replace aa := aa.fr a8 (ai.old ax)
        replace aj := aj.fr a8 sep_zero'
        clear a8 ai
        refine ⟨trivial, ?_⟩
        have cc := h.1
        replace h := h.2
        refine HS_to [] _ rfl (by rw [ad]; kernel_rfl) (X_append (α := sealskinref06_Record) (xs := (([] : List sealskinref06_Record) ++ z0.L_)) (ys := ([(sealskinref06_Record.mk x1 (Str.mk x2))] : List sealskinref06_Record)) el36 rfl rfl az ((Srcs.ofOwn Try.underlying36 aj (by decide)).up hI.sub) hI.st cc (by decide) hI.size) rfl rfl ?_
        rintro _ fk ⟨cd, ce, rfl, an, av, bj⟩
        clear bj
        replace hI := hI.tok av az.out (az.new (Nat.le_refl _))
        replace ab := ab.fr av (az.old aw)
        replace aa := aa.fr av (az.old ax)
        clear av az
        refine ⟨trivial, ?_⟩
        refine HSp (R_nilCheck rfl) rfl rfl (HSp (R_fieldAddr fo73_0 rfl) rfl rfl ?_)
        refine Exists.elim (an.freeze hI) fun fm ay => Exists.elim ay fun dl ay => ?_
        replace hI := ay.1
        have al := ay.2.1
        have cf := ay.2.2.2 (Le.refl _)
        have cg := an.cap
        replace ae := ae.up al.hh
        replace ab := ab.up al (an.old aw)
        replace aa := aa.up al (an.old ax)
        replace af := af.up al.hh
        replace ag := ag.up al.hh
        replace ah := ah.up al.hh
        replace ar := ar.trans al.ll
        replace ak := ak.trans al.hh
        clear ay al an
        refine HS_to0 [] _ rfl (by rw [ad]; kernel_rfl) (R_store sz36 rfl rfl ab.blk (by show 0 < 4; decide) rfl) rfl ?_
        rintro _ fo ⟨bg, a7⟩
        replace hI := hI.tok a7 (out1 ab.out) (mem1 (by simp))
        replace aa := aa.fr a7 (aa.apart ab (by decide))
        replace ab : Tok dl _ d0 73 ([.slice cd (((([] : List sealskinref06_Record) ++ z0.L_) ++ ([(sealskinref06_Record.mk x1 (Str.mk x2))] : List sealskinref06_Record)).length) ce, .pointer (some ⟨d1, 0, none⟩), vi z0.Gen_, vi z0.File_]) := ⟨bg, ab.out⟩
        clear a7 bg
        refine ⟨trivial, ?_⟩
        refine HS_nil ?_
        clear ad
        refine then_n ?_
        exact ⟨_, rfl, ⟨(sealskinref06_Journal.mk ((([] : List sealskinref06_Record) ++ z0.L_) ++ ([(sealskinref06_Record.mk x1 (Str.mk x2))] : List sealskinref06_Record)) z0.Gen_ z0.File_), cd, ce, _, _, rfl, h, hI, ar, ak, ab, cg, cf, aa, trivial⟩, ⟨rfl, trivial⟩⟩
      ·
       have cu := ac.blk.lt
       refine Stp_to [5] _ rfl (by rw [ad]; kernel_rfl) (R_buildSlice el36 zr39 (by decide) (by decide) rfl rfl) rfl rfl ?_
       rintro _ fu ⟨cv, rfl, dj, ca, a6⟩
       have ai : OwnS w.heap.size 39 bi cr _ (some ⟨cv, 0, none⟩) 1 ([(sealskinref06_Record.mk x1 (Str.mk x2))] : List sealskinref06_Record) := OwnS.ofBlk (css := [[vi x1, vs (Str.mk x2)]]) hI.st dj ca (.cons rfl .nil) rfl (by have := hI.size; omega) (by show 1 ≤ maxLen; decide)
       replace hI := hI.fr0 a6
       replace ab := ab.fr0 a6
       replace ac := ac.fr0 a6
       replace aa := aa.fr0 a6
       clear a6 ca
       have cw : ∀ i_ ∈ bk (some ⟨cv, 0, none⟩) 1, i_ ∉ [bh] := fun i_ hi_ hm_ => by have h_ := (fun i_ hi_ => by have := (bk_of hi_).1; simp only [blkOf, List.mem_singleton] at this; omega) i_ hi_; rw [List.mem_singleton] at hm_; omega
       refine ⟨⟨(ab.blk.at_ rfl), trivial⟩, ?_⟩
       have ck := ai.lt
       refine HS_to [5] _ rfl (by rw [ad]; kernel_rfl) (R_buildSlice0 el36) rfl rfl ?_
       rintro _ ff ⟨db, rfl, dm, ci, am⟩
       have aj : OwnS w.heap.size 39 bi cr _ (some ⟨db, 0, none⟩) 0 ([] : List sealskinref06_Record) := OwnS.ofBlk (css := []) hI.st dm ci .nil rfl (by have := hI.size; omega) (by show 0 ≤ maxLen; decide)
       replace hI := hI.fr0 am
       replace ab := ab.fr0 am
       replace aa := aa.fr0 am
       replace ai := ai.fr0 am
       clear am ci
       have ee : ∀ i ∈ bk (some ⟨db, 0, none⟩) 0, i ∉ bk (some ⟨cv, 0, none⟩) 1 := sep_new (fun i_ hi_ => by have := (bk_of hi_).1; simp only [blkOf, List.mem_singleton] at this; omega) ck
       refine ⟨⟨(ab.blk.at_ rfl), trivial⟩, ?_⟩
       have dn := h.1
       replace h := h.2
       have cl := ai.lt
       refine HS_to [] _ rfl (by rw [ad]; kernel_rfl) (X_append (α := sealskinref06_Record) (xs := ([] : List sealskinref06_Record)) (ys := z0.L_) el36 rfl rfl (aj.hl hI.sub) (Srcs.ofSl Try.underlying36 ae hI.st (by decide)) hI.st dn (by decide) hI.size) rfl rfl ?_
       rintro _ fv ⟨ew, ex, rfl, az, a8, bl⟩
       have eg : ∀ i ∈ bk ew ex, i ∉ bk (some ⟨cv, 0, none⟩) 1 := sep_app bl sep_zero cl
       clear bl
       replace hI := hI.tok a8 aj.out (aj.new (Nat.le_refl _))
       replace ab := ab.fr a8 (aj.old aw)
       replace aa := aa.fr a8 (aj.old ax)
       replace ai := ai.fr a8 sep_zero'
       clear a8 aj
       refine ⟨trivial, ?_⟩
       have cc := h.1
       replace h := h.2
       refine HS_to [] _ rfl (by rw [ad]; kernel_rfl) (X_append (α := sealskinref06_Record) (xs := (([] : List sealskinref06_Record) ++ z0.L_)) (ys := ([(sealskinref06_Record.mk x1 (Str.mk x2))] : List sealskinref06_Record)) el36 rfl rfl az ((Srcs.ofOwn Try.underlying36 ai (by decide)).up hI.sub) hI.st cc (by decide) hI.size) rfl rfl ?_
       rintro _ fk ⟨cd, ce, rfl, an, av, bj⟩
       clear bj
       replace hI := hI.tok av az.out (az.new (Nat.le_refl _))
       replace ab := ab.fr av (az.old aw)
       replace aa := aa.fr av (az.old ax)
       clear av az
       refine ⟨trivial, ?_⟩
       refine HSp (R_nilCheck rfl) rfl rfl (HSp (R_fieldAddr fo73_0 rfl) rfl rfl ?_)
       refine Exists.elim (an.freeze hI) fun fm ay => Exists.elim ay fun dl ay => ?_
       replace hI := ay.1
       have al := ay.2.1
       have cf := ay.2.2.2 (Le.refl _)
       have cg := an.cap
       replace ae := ae.up al.hh
       replace ab := ab.up al (an.old aw)
       replace aa := aa.up al (an.old ax)
       replace af := af.up al.hh
       replace ag := ag.up al.hh
       replace ah := ah.up al.hh
       replace ar := ar.trans al.ll
       replace ak := ak.trans al.hh
       clear ay al an
       refine HS_to0 [] _ rfl (by rw [ad]; kernel_rfl) (R_store sz36 rfl rfl ab.blk (by show 0 < 4; decide) rfl) rfl ?_
       rintro _ fo ⟨bg, a7⟩
       replace hI := hI.tok a7 (out1 ab.out) (mem1 (by simp))
       replace aa := aa.fr a7 (aa.apart ab (by decide))
       replace ab : Tok dl _ d0 73 ([.slice cd (((([] : List sealskinref06_Record) ++ z0.L_) ++ ([(sealskinref06_Record.mk x1 (Str.mk x2))] : List sealskinref06_Record)).length) ce, .pointer (some ⟨d1, 0, none⟩), vi z0.Gen_, vi z0.File_]) := ⟨bg, ab.out⟩
       clear a7 bg
       refine ⟨trivial, ?_⟩
       refine HS_nil ?_
       clear ad
       refine then_n ?_
       exact ⟨_, rfl, ⟨(sealskinref06_Journal.mk ((([] : List sealskinref06_Record) ++ z0.L_) ++ ([(sealskinref06_Record.mk x1 (Str.mk x2))] : List sealskinref06_Record)) z0.Gen_ z0.File_), cd, ce, _, _, rfl, h, hI, ar, ak, ab, cg, cf, aa, trivial⟩, ⟨rfl, trivial⟩⟩
     ·
      replace h := h.2 di
      refine W_skip ?_
      refine then_n ?_
      exact ⟨_, rfl, ⟨z0, bd, be, _, _, rfl, h, hI, ar, ak, ab, cq, ae, aa, trivial⟩, ⟨rfl, trivial⟩⟩
    ·
     simp only [e_, Nat.reduceAdd, Nat.reduceBEq] at b_
     subst b_
     clear h
     clear aa
     rintro _ go ⟨a4, ba, bc, gp, gq, rfl, eh, ei, ar, ak, dr, dc, dd, aa, -⟩
     replace hI := ei
     clear ei
     have h := dh a4 eh
     clear dh eh
     replace af := af.up ak
     replace ag := ag.up ak
     replace ah := ah.up ak
     refine W_seq_k fun K34 k34 => ?_
     refine W_region [48, 6] rfl (Ops_step (R_move rfl) rfl rfl (Ops_step (R_assign rfl) rfl rfl ?_))
     refine Ops_nil ?_
     refine then_n (k34 _ _ ?_)
     clear k34 K34
     refine W_ret ?_
     refine ⟨_, ⟨_, _, rfl, rfl, rfl⟩, ?_⟩
     exact ⟨fc, a4, ba, bc, a9, bz, b4, b5, b6, b7, b8, _, _, rfl, hI, dr, dc, dd, aa, c8, af, c9, ag, da, ah, h⟩

theorem sealskinref06_Journal_Bytes_ok {G : Gh} {w : World} (hS : St G w) (hg : GL G) {d0 : Nat} {z0 : sealskinref06_Journal} {al : Option Addr} {am : Nat} {d1 : Nat} {z1 : sealskinref05_Disk} {ao : Option Addr} {ap : Nat} {aq : Option Addr} {ar : Nat} {au : Option Addr} {av : Nat} (ab : Tok G w d1 81 ([.slice ao z1.F_.e0_.length ap, .slice aq z1.F_.e1_.length ar, .slice au z1.F_.e2_.length av, vi z1.Room_, .bool z1.Off_, vi z1.Fuse_])) (b5 : z1.F_.e0_.length ≤ ap) (af : Sl G ao z1.F_.e0_) (b6 : z1.F_.e1_.length ≤ ar) (ag : Sl G aq z1.F_.e1_) (b7 : z1.F_.e2_.length ≤ av) (ah : Sl G au z1.F_.e2_) (aa : Tok G w d0 73 ([.slice al z0.L_.length am, .pointer (some ⟨d1, 0, none⟩), vi z0.Gen_, vi z0.File_])) (b8 : z0.L_.length ≤ am) (ac : Sl G al z0.L_) {x1 : Int} {Q : Int → Prop} (h : sealskinref06_Journal_Bytes z0 z1 x1 Q) : Calls Try.prog 38 #[.pointer (some ⟨d0, 0, none⟩), vi x1] w fun e w2 => ∃ (r0 : Int) (L H : Gh), e = .returned (vi r0) ∧ Inv [] G w L H w2 ∧ Q r0 := by
 unfold sealskinref06_Journal_Bytes at h
 have hI := Inv.start (M := []) hS
 refine calls_W 28 Try.func38 rfl Try.ntmps38 rfl [.tmp 4] rfl ?_
 have b9 := aa.blk.lt
 have ca := ab.blk.lt
 refine W_seq_k fun K1 k1 => ?_
 refine W_region [4] rfl (Ops_step (R_assign rfl) rfl rfl ?_)
 refine Ops_nil ?_
 refine then_n (k1 _ _ ?_)
 clear k1 K1
 refine W_seq_k fun K2 k2 => ?_
 refine W_region [5] rfl (Ops_step (R_assign rfl) rfl rfl ?_)
 refine Ops_nil ?_
 refine then_n (k2 _ _ ?_)
 clear k2 K2
 refine ex_ h fun ce bj h => ?_
 refine W_seq_join [] [5] (fun vals_ w2 => ∃ (a7 : Int) (L H : Gh), vals_ = [vi a7] ∧ ce a7 ∧ Inv [] G w L H w2 ∧ Le Gh.no L ∧ Le G H ∧ Tok H w2 d1 81 ([.slice ao z1.F_.e0_.length ap, .slice aq z1.F_.e1_.length ar, .slice au z1.F_.e2_.length av, vi z1.Room_, .bool z1.Off_, vi z1.Fuse_]) ∧ Tok H w2 d0 73 ([.slice al z0.L_.length am, .pointer (some ⟨d1, 0, none⟩), vi z0.Gen_, vi z0.File_]) ∧ True) (fun B_ b_ => ?_) (fun B_ b_ => ?_)
 ·
  simp only [e_, Nat.reduceAdd, Nat.reduceBEq] at b_
  subst b_
  clear bj
  have an := Le.refl Gh.no
  have ad := Le.refl G
  refine W_seq_k fun K4 k4 => ?_
  refine W_region [8, 9, 10, 11, 12, 13] rfl (Ops_step (R_move rfl) rfl rfl (Ops_step (R_nilCheck rfl) rfl rfl (Ops_step (R_fieldAddr fo73_0 rfl) rfl rfl ?_)))
  refine Ops_step (R_loadB (v := .slice al z0.L_.length am) ag36 rfl aa.blk rfl) rfl rfl ?_
  refine Ops_step (R_len Try.underlying36 rfl rfl) rfl rfl (Ops_step (R_move rfl) rfl rfl ?_)
  refine Ops_nil ?_
  refine then_n (k4 _ _ ?_)
  clear k4 K4
  refine W_block ?_
  refine Exists.elim h fun cf h => Exists.elim h fun cg h => ?_
  have cc := h.1
  have bp := h.2
  clear h
  refine W_loopB [1, 11, 12] [5, 13] (fun m vals_ w2 => ∃ (ay : Int) (aw : Int) (L H : Gh), vals_ = [vi ay, vi aw] ∧ cf m ay aw ∧ Inv [] G w L H w2 ∧ Le Gh.no L ∧ Le G H ∧ Tok H w2 d1 81 ([.slice ao z1.F_.e0_.length ap, .slice aq z1.F_.e1_.length ar, .slice au z1.F_.e2_.length av, vi z1.Room_, .bool z1.Off_, vi z1.Fuse_]) ∧ Tok H w2 d0 73 ([.slice al z0.L_.length am, .pointer (some ⟨d1, 0, none⟩), vi z0.Gen_, vi z0.File_]) ∧ True) cg _ rfl ⟨0, 0, _, _, rfl, cc, hI, Le.refl _, Le.refl _, ab, aa, trivial⟩ fun B_ b_ => ?_
  clear cc
  simp only [e_, Nat.reduceAdd, Nat.reduceBEq] at b_
  subst b_
  clear aa
  clear ab
  rintro ci _ cm ⟨ay, aw, cd, b4, rfl, bq, br, az, ai, ab, aa, -⟩
  replace hI := br
  clear br
  have h := bp ci ay aw bq
  clear bp bq
  replace ac := ac.up ai
  replace af := af.up ai
  replace ag := ag.up ai
  replace ah := ah.up ai
  replace an := an.trans az
  replace ad := ad.trans ai
  refine W_seq_k fun K6 k6 => ?_
  refine W_region [14] rfl (Ops_step (R_lss rfl rfl) rfl rfl ?_)
  refine Ops_nil ?_
  refine then_n (k6 _ _ ?_)
  clear k6 K6
  refine W_seq_k fun K7 k7 => ?_
  refine W_if rfl (fun bl => ?_) (fun bl => ?_)
  ·
   replace h := h.1 bl
   refine W_skip ?_
   refine then_n (k7 _ _ ?_)
   clear k7 K7
   refine ex_ h fun cj bm h => ?_
   refine W_seq_join [1, 11, 12, 13] [5] (fun vals_ w2 => ∃ (a8 : Int) (L H : Gh), vals_ = [vi a8] ∧ cj a8 ∧ Inv [] G w L H w2 ∧ Le cd L ∧ Le b4 H ∧ Tok H w2 d1 81 ([.slice ao z1.F_.e0_.length ap, .slice aq z1.F_.e1_.length ar, .slice au z1.F_.e2_.length av, vi z1.Room_, .bool z1.Off_, vi z1.Fuse_]) ∧ Tok H w2 d0 73 ([.slice al z0.L_.length am, .pointer (some ⟨d1, 0, none⟩), vi z0.Gen_, vi z0.File_]) ∧ True) (fun B_ b_ => ?_) (fun B_ b_ => ?_)
   ·
    simp only [e_, Nat.reduceAdd, Nat.reduceBEq] at b_
    subst b_
    clear bm
    have ax := Le.refl cd
    have ae := Le.refl b4
    refine W_block ?_
    refine W_seq_k fun K10 k10 => ?_
    refine W_region [15, 16, 7, none] rfl ?_
    refine ex_ h fun ak a4 h => ?_
    have bt := (Sl.atN (n := 2) rfl (by decide) ac a4).1
    refine Exists.elim (Sl.atN (n := 2) rfl (by decide) ac a4).2 fun cb a9 => ?_
    have ba := a9.1
    have bu := a9.2
    clear a9
    refine Ops_step (R_indexSl Try.underlying36 sz39 rfl rfl a4.1 a4.lt bt) rfl rfl ?_
    replace ba : cb = [vi ak.Label_, vs ak.Data_] := ba
    subst ba
    refine Ops_step (R_loadCs (cs := [vi ak.Label_, vs ak.Data_]) ag39 sz39 rfl (fun j_ v_ hv_ => hI.st _ _ (bu j_ v_ hv_))) rfl rfl ?_
    have bn := hI
    refine Ops_to (R_alloc zr39) rfl rfl ?_
    rintro _ ck ⟨bo, rfl, bc, bf, a5⟩
    replace hI := hI.fr0 a5
    replace ab := ab.fr0 a5
    replace aa := aa.fr0 a5
    have aj : Tok b4 _ bo 39 ([vi 0, vs (Str.mk [])]) := ⟨bf.to rfl, Out.ge bn.st (Nat.le_of_eq bc.symm)⟩
    have bd : w.heap.size ≤ bo := bc ▸ bn.size
    clear bf bc bn a5
    refine Ops_to0 (R_storeN sz39 rfl rfl rfl aj.blk (Nat.le_of_ble_eq_true rfl) rfl) rfl ?_
    rintro _ cl ⟨bg, a6⟩
    replace hI := hI.tok a6 (out1 aj.out) (new1 bd)
    replace ab := ab.fr a6 (ab.apart aj (by decide))
    replace aa := aa.fr a6 (aa.apart aj (by decide))
    replace aj : Tok b4 _ bo 39 ([vi ak.Label_, vs ak.Data_]) := ⟨bg, aj.out⟩
    clear a6 bg
    refine Ops_nil ?_
    refine then_n (k10 _ _ ?_)
    clear k10 K10
    refine W_seq_k fun K14 k14 => ?_
    refine W_region [17, 18, 19, 20] rfl (Ops_step (R_fieldAddr fo39_0 rfl) rfl rfl ?_)
    refine Ops_step (R_loadB (v := vi ak.Label_) ag3 rfl aj.blk rfl) rfl rfl ?_
    refine Ops_step (R_move rfl) rfl rfl (Ops_step (R_eql rfl rfl) rfl rfl ?_)
    refine Ops_nil ?_
    refine then_n (k14 _ _ ?_)
    clear k14 K14
    refine W_keepB [1, 5, 7, 11, 12, 13, 20] fun B_ b_ => ?_
    simp only [e_, Nat.reduceAdd, Nat.reduceBEq] at b_
    subst b_
    refine W_if rfl (fun be => ?_) (fun be => ?_)
    ·
     replace h := h.1 be
     refine W_region [21, 22, 23, 24, 25, 5] rfl (Ops_step (R_move rfl) rfl rfl (Ops_step (R_fieldAddr fo39_1 rfl) rfl rfl ?_))
     refine Ops_step (R_loadB (v := vs ak.Data_) ag9 rfl aj.blk rfl) rfl rfl ?_
     refine Ops_step (X_lenStr (b := ak.Data_) Try.underlying9 rfl rfl) rfl rfl ?_
     have bh := h.1
     replace h := h.2
     refine Ops_step (R_add rfl rfl (wI bh.1 bh.2)) rfl rfl (Ops_step (R_assign rfl) rfl rfl ?_)
     refine Ops_nil ?_
     refine block_n ?_
     refine then_n ?_
     exact ⟨_, rfl, ⟨(ay + (ak.Data_.b.length : Int)), _, _, rfl, h, hI, ax, ae, ab, aa, trivial⟩, ⟨rfl, rfl, rfl, rfl, trivial⟩⟩
    ·
     replace h := h.2 be
     refine W_skip ?_
     refine block_n ?_
     refine then_n ?_
     exact ⟨_, rfl, ⟨ay, _, _, rfl, h, hI, ax, ae, ab, aa, trivial⟩, ⟨rfl, rfl, rfl, rfl, trivial⟩⟩
   ·
    simp only [e_, Nat.reduceAdd, Nat.reduceBEq] at b_
    subst b_
    clear h
    clear aa
    clear ab
    rintro _ co ⟨a8, cp, cq, rfl, bv, bw, ax, ae, ab, aa, -⟩
    replace hI := bw
    clear bw
    have h := bm a8 bv
    clear bm bv
    replace ac := ac.up ae
    replace af := af.up ae
    replace ag := ag.up ae
    replace ah := ah.up ae
    replace an := an.trans ax
    replace ad := ad.trans ae
    replace az := az.trans ax
    replace ai := ai.trans ae
    refine W_region [26, 13] rfl ?_
    have bi := h.1
    replace h := h.2
    refine Ops_step (R_add rfl rfl (wI bi.1 bi.2)) rfl rfl (Ops_step (R_move rfl) rfl rfl ?_)
    refine Ops_nil ?_
    refine then_n ?_
    exact h.elim fun m_ h => ⟨m_, _, h.1, rfl, ⟨a8, (aw + 1), _, _, rfl, h.2, hI, az, ai, ab, aa, trivial⟩, ⟨rfl, rfl, rfl, trivial⟩⟩
  ·
   replace h := h.2 bl
   refine W_exit ?_
   refine then_exit ?_
   clear k7 K7
   refine then_exit ?_
   refine block_exit ?_
   refine then_n ?_
   exact ⟨_, rfl, ⟨ay, _, _, rfl, h, hI, an, ad, ab, aa, trivial⟩, trivial⟩
 ·
  simp only [e_, Nat.reduceAdd, Nat.reduceBEq] at b_
  subst b_
  clear h
  clear aa
  clear ab
  rintro _ cr ⟨a7, ct, cu, rfl, bx, bz, an, ad, ab, aa, -⟩
  replace hI := bz
  clear bz
  have h := bj a7 bx
  clear bj bx
  replace ac := ac.up ad
  replace af := af.up ad
  replace ag := ag.up ad
  replace ah := ah.up ad
  refine W_seq_k fun K19 k19 => ?_
  refine W_region [27, 4] rfl (Ops_step (R_move rfl) rfl rfl (Ops_step (R_assign rfl) rfl rfl ?_))
  refine Ops_nil ?_
  refine then_n (k19 _ _ ?_)
  clear k19 K19
  refine W_ret ?_
  refine ⟨_, ⟨_, _, rfl, rfl, rfl⟩, ?_⟩
  exact ⟨a7, _, _, rfl, hI, h⟩

end Go.Proofs.Ytkmljjhjojolcaa

