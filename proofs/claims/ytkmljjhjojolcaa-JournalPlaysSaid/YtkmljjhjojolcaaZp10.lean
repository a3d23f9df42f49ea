/- What is shown of the program on the way to the law. -/
import Derived.Test.YtkmljjhjojolcaaZp3
import Derived.Test.YtkmljjhjojolcaaZp4
import Derived.Test.YtkmljjhjojolcaaZp5
import Derived.Test.YtkmljjhjojolcaaZp7
import Derived.Test.YtkmljjhjojolcaaZp8
import Derived.Test.YtkmljjhjojolcaaZp9
import Derived.Test.YtkmljjhjojolcaaProg
set_option linter.unusedVariables false
set_option linter.unusedSimpArgs false
set_option maxHeartbeats 4000000
namespace Go.Proofs.Ytkmljjhjojolcaa
open Go Go.Sx Go.Lx
namespace TJtE
theorem hm : Try.prog.follows .mixedOrders = true := by kernel_rfl
theorem ag25 : aggB Try.prog 25 = some false := by kernel_rfl
theorem ag29 : aggB Try.prog 29 = some false := by kernel_rfl
theorem ag3 : aggB Try.prog 3 = some false := by kernel_rfl
theorem ag41 : aggB Try.prog 41 = some false := by kernel_rfl
theorem ag42 : aggB Try.prog 42 = some false := by kernel_rfl
theorem ag85 : aggB Try.prog 85 = some true := by kernel_rfl
theorem bd13 : bodied Try.prog 13 = true := by kernel_rfl
theorem bd15 : bodied Try.prog 15 = true := by kernel_rfl
theorem bd17 : bodied Try.prog 17 = true := by kernel_rfl
theorem bd18 : bodied Try.prog 18 = true := by kernel_rfl
theorem bd19 : bodied Try.prog 19 = true := by kernel_rfl
theorem bd20 : bodied Try.prog 20 = true := by kernel_rfl
theorem bd21 : bodied Try.prog 21 = true := by kernel_rfl
theorem bd22 : bodied Try.prog 22 = true := by kernel_rfl
theorem bd24 : bodied Try.prog 24 = true := by kernel_rfl
theorem bd26 : bodied Try.prog 26 = true := by kernel_rfl
theorem bd32 : bodied Try.prog 32 = true := by kernel_rfl
theorem bd39 : bodied Try.prog 39 = true := by kernel_rfl
theorem bd41 : bodied Try.prog 41 = true := by kernel_rfl
theorem bd43 : bodied Try.prog 43 = true := by kernel_rfl
theorem bd48 : bodied Try.prog 48 = true := by kernel_rfl
theorem el29 : Elem Try.prog 29 5 1 1 := Elem.of (by kernel_rfl)
theorem el36 : Elem Try.prog 36 39 2 24 := Elem.of (by kernel_rfl)
theorem fo44_0 : offB Try.prog 44 0 = some 0 := by kernel_rfl
theorem fo44_1 : offB Try.prog 44 1 = some 1 := by kernel_rfl
theorem fo46_0 : offB Try.prog 46 0 = some 0 := by kernel_rfl
theorem fo46_1 : offB Try.prog 46 1 = some 2 := by kernel_rfl
theorem fo53_1 : offB Try.prog 53 1 = some 3 := by kernel_rfl
theorem fo53_2 : offB Try.prog 53 2 = some 4 := by kernel_rfl
theorem fo53_3 : offB Try.prog 53 3 = some 5 := by kernel_rfl
theorem fo53_4 : offB Try.prog 53 4 = some 6 := by kernel_rfl
theorem fo85_0 : offB Try.prog 85 0 = some 0 := by kernel_rfl
theorem fo85_1 : offB Try.prog 85 1 = some 1 := by kernel_rfl
theorem pl39 : partPl Try.prog 39 = some [(0, 1), (1, 1)] := by kernel_rfl
theorem pl85 : partPl Try.prog 85 = some [(0, 1), (1, 1)] := by kernel_rfl
theorem sz3 : sz Try.prog 3 = some 1 := by kernel_rfl
theorem sz4 : sz Try.prog 4 = some 1 := by kernel_rfl
theorem sz85 : sz Try.prog 85 = some 2 := by kernel_rfl
theorem zr39 : zr Try.prog 39 = some ([.int .i64 0] ++ [.string ByteArray.empty]) := by kernel_rfl
theorem zr5 : zr Try.prog 5 = some ([.int .u8 0]) := by kernel_rfl
theorem zr85 : zr Try.prog 85 = some ([.int .i64 0] ++ [.slice none 0 0]) := by kernel_rfl
theorem zv3 : zv Try.prog 3 = some (vi 0) := by kernel_rfl
end TJtE
open TJtE
theorem sealskinlaw06_begun_ok {G : Gh} {w : World} (hS : St G w) (hg : GL G)  {Q : Bool → disk_Disk → journal_Journal → (List (Int × Int)) → Prop} (h : sealskinlaw06_begun  Q) : Calls Try.prog 13 #[] w fun e w2 => ∃ (r2 : Bool) (o0 : Nat) (y0 : disk_Disk) (bd : Option Addr) (be : Nat) (bf : Option Addr) (bg : Nat) (bh : Option Addr) (bi : Nat) (o1 : Nat) (y1 : journal_Journal) (bj : Option Addr) (bl : Nat) (o2 : Nat) (y2 : List (Int × Int)) (L H : Gh), e = .returned (.tuple #[.pointer (some ⟨o0, 0, none⟩), .pointer (some ⟨o1, 0, none⟩), .bool r2]) ∧ Inv [] G w L H w2 ∧ w.heap.size ≤ o0 ∧ Tok H w2 o0 53 ([.slice bd y0.files_.e0_.length be, .slice bf y0.files_.e1_.length bg, .slice bh y0.files_.e2_.length bi, vi y0.room_, .bool y0.off_, .bool y0.armed_, vi y0.left_]) ∧ y0.files_.e0_.length ≤ be ∧ Sl H bd y0.files_.e0_ ∧ y0.files_.e1_.length ≤ bg ∧ Sl H bf y0.files_.e1_ ∧ y0.files_.e2_.length ≤ bi ∧ Sl H bh y0.files_.e2_ ∧ w.heap.size ≤ o1 ∧ Tok H w2 o1 46 ([.slice bj y1.book_.l_.length bl, .map (some o2), .pointer (some ⟨o0, 0, none⟩), vi y1.gen_, vi y1.place_]) ∧ y1.book_.l_.length ≤ bl ∧ Sl H bj y1.book_.l_ ∧ w.heap.size ≤ o2 ∧ MTok H H w2 o2 y2 ∧ Q r2 y0 y1 y2 := by
 unfold sealskinlaw06_begun at h
 have hI := Inv.start (M := []) hS
 refine calls_W 20 Try.func13 rfl Try.ntmps13 rfl [.tmp 0, .tmp 1, .tmp 2] rfl ?_
 refine W_seq_k fun K1 k1 => ?_
 refine W_region [0, 1, 2] rfl (Ops_step (R_assign rfl) rfl rfl (Ops_step (R_assign rfl) rfl rfl (Ops_step (R_assign rfl) rfl rfl ?_)))
 refine Ops_nil ?_
 refine then_n (k1 _ _ ?_)
 clear k1 K1
 refine W_seq_k fun K2 k2 => ?_
 refine W_region [8, 7, 9, 10, 3, 4] rfl ?_
 refine Ops_call (C_func bd24 rfl) rfl rfl ?_
 refine (disk_New_ok (x0 := 8388608) hI.st (hg.up hI.le)  h).mono ?_
 rintro _ df (⟨cw, c7, c8, rfl, cx, h⟩ | ⟨ca, bm, br, cb, cc, cd, ce, cf, cg, c9, da, rfl, bn, aa, ag, ah, ad, ai, ae, aj, af, h⟩)
 ·
  exact h.elim
 ·
  have bt := aa
  replace aa := Nat.le_trans hI.size aa
  refine Exists.elim (hI.call bn (by simp)) fun L3b0_ a6 => ?_
  have cy := hI.size
  replace hI := a6.1
  have cu := a6.2.1
  have ci := a6.2.2
  clear a6
  clear bn cu ci
  refine ⟨_, rfl, ?_⟩
  refine Ops_step (R_move rfl) rfl rfl ?_
  refine Ops_step (R_extract (v := .pointer (some ⟨bm, 0, none⟩)) rfl rfl) rfl rfl ?_
  refine Ops_step (R_extract (v := vi ca) rfl rfl) rfl rfl ?_
  refine Ops_step (R_assign rfl) rfl rfl (Ops_step (R_assign rfl) rfl rfl ?_)
  refine Ops_nil ?_
  refine then_n (k2 _ _ ?_)
  clear k2 K2
  refine W_keepB [3] fun B_ b_ => ?_
  simp only [e_, Nat.reduceAdd, Nat.reduceBEq] at b_
  subst b_
  refine W_seq_k fun K5 k5 => ?_
  refine W_region [12, 13, 11, 14, 15, 5, 6] rfl (Ops_step (R_move rfl) rfl rfl ?_)
  refine Ops_call (C_func bd20 rfl) rfl rfl ?_
  refine (journal_Open_ok (z0 := br) hI.st (hg.up hI.le) ag ah ad ai ae aj af h).mono ?_
  rintro _ dg (⟨cz, cv, cj, ck, cl, cm, co, cp, db, dc, rfl, c5, ct, b4, b5, b6, b7, b8, b9, h⟩ | ⟨bo, bu, au, av, aw, ax, ay, az, bp, bv, a4, a5, cq, bw, dd, de, rfl, bq, a7, ak, al, am, an, ao, ap, ab, a8, aq, ar, ac, a9, h⟩)
  ·
   exact h.elim
  ·
   have bx := ab
   replace ab := Nat.le_trans hI.size ab
   have bz := ac
   replace ac := Nat.le_trans hI.size ac
   refine Exists.elim (hI.call bq (new1 aa)) fun L6b0_ ba => ?_
   have c6 := hI.size
   replace hI := ba.1
   have bc := ba.2.1
   have cr := ba.2.2
   clear ba
   replace ad := ad.up bc.hh
   replace ae := ae.up bc.hh
   replace af := af.up bc.hh
   clear ag
   clear bq bc cr
   refine ⟨_, rfl, ?_⟩
   refine Ops_step (R_move rfl) rfl rfl ?_
   refine Ops_step (R_extract (v := .pointer (some ⟨bp, 0, none⟩)) rfl rfl) rfl rfl ?_
   refine Ops_step (R_extract (v := vi bo) rfl rfl) rfl rfl ?_
   refine Ops_step (R_assign rfl) rfl rfl (Ops_step (R_assign rfl) rfl rfl ?_)
   refine Ops_nil ?_
   refine then_n (k5 _ _ ?_)
   clear k5 K5
   refine W_seq_k fun K7 k7 => ?_
   refine W_region [16, 17, 18, 19, 0, 1, 2] rfl (Ops_step (R_move rfl) rfl rfl (Ops_step (R_move rfl) rfl rfl (Ops_step (R_move rfl) rfl rfl (Ops_step (R_eql rfl rfl) rfl rfl ?_))))
   refine Ops_step (R_assign rfl) rfl rfl (Ops_step (R_assign rfl) rfl rfl (Ops_step (R_assign rfl) rfl rfl ?_))
   refine Ops_nil ?_
   refine then_n (k7 _ _ ?_)
   clear k7 K7
   refine W_keepB [0, 1, 2] fun B_ b_ => ?_
   simp only [e_, Nat.reduceAdd, Nat.reduceBEq] at b_
   subst b_
   refine W_ret ?_
   refine ⟨_, ⟨_, _, rfl, rfl, ⟨_, _, rfl, rfl, ⟨_, _, rfl, rfl, rfl⟩⟩⟩, ?_⟩
   exact ⟨(decide (bo = 0)), bm, bu, au, av, aw, ax, ay, az, bp, bv, a4, a5, cq, bw, _, _, rfl, hI, aa, a7, ak, al, am, an, ao, ap, ab, a8, aq, ar, ac, a9, h⟩

theorem slices_Clone_sl_byte_byte_ok {G : Gh} {w : World} (hS : St G w) (hg : GL G) {A0 : Option Addr} {c0 : Nat} {x0 : List UInt8} (hc0 : x0.length ≤ c0) (hs0 : Sl G A0 x0) {Q : (List UInt8) → Prop} (h : slices_Clone_sl_byte_byte x0 Q) : Calls Try.prog 32 #[.slice A0 x0.length c0] w fun e w2 => ∃ (A0 : Option Addr) (c0 : Nat) (r0 : List UInt8) (L H : Gh), e = .returned (.slice A0 r0.length c0) ∧ Inv [] G w L H w2 ∧ OwnS w.heap.size 5 L H w2 A0 c0 r0 ∧ Q r0 := by
 unfold slices_Clone_sl_byte_byte at h
 have hI := Inv.start (M := []) hS
 refine calls_W 8 Try.func32 rfl Try.ntmps32 rfl [.tmp 2] rfl ?_
 refine W_seq_k fun K1 k1 => ?_
 refine W_region [2] rfl (Ops_step (R_assign rfl) rfl rfl ?_)
 refine Ops_nil ?_
 refine then_n (k1 _ _ ?_)
 clear k1 K1
 refine W_seq_k fun K2 k2 => ?_
 refine W_seq_k fun K3 k3 => ?_
 refine W_region [3, 4] rfl (Ops_step (R_move rfl) rfl rfl ?_)
 refine named (A0).isNone fun ak ac => ?_
 replace h := h ak (fun e_ => sl_nil hs0 (by decide) (ac.symm.trans e_))
 refine Ops_step (X_slNil ac Try.underlying29 rfl rfl) rfl rfl ?_
 refine Ops_nil ?_
 refine then_n (k3 _ _ ?_)
 clear k3 K3
 refine W_cond rfl (fun ab => ?_) (fun ab => ?_)
 ·
  replace h := h.1 ab
  refine W_seq_k fun K6 k6 => ?_
  refine W_region [2] rfl (Ops_step (R_assign rfl) rfl rfl ?_)
  refine Ops_nil ?_
  refine then_n (k6 _ _ ?_)
  clear k6 K6
  refine W_ret ?_
  refine then_ret ?_
  clear k2 K2
  refine ⟨_, ⟨_, _, rfl, rfl, rfl⟩, ?_⟩
  exact ⟨none, 0, [], _, _, rfl, hI, OwnS.nil, h⟩
 ·
  replace h := h.2 ab
  refine W_skip ?_
  refine then_n (k2 _ _ ?_)
  clear k2 K2
  refine W_seq_k fun K7 k7 => ?_
  refine W_region [5, 6, 7, 2] rfl ?_
  refine Ops_to (R_buildSlice0 el29) rfl rfl ?_
  rintro _ ao ⟨al, rfl, ai, ad, ae⟩
  have aa : OwnS w.heap.size 5 Gh.no G _ (some ⟨al, 0, none⟩) 0 ([] : List UInt8) := OwnS.ofBlk hI.st ai ad (all2_sc' _) rfl (by have := hI.size; omega) (by show 0 ≤ maxLen; decide)
  replace hI := hI.fr0 ae
  clear ae ad
  refine Ops_step (R_move rfl) rfl rfl ?_
  have af := h.1
  replace h := h.2
  refine Ops_to (X_append (α := UInt8) (xs := ([] : List UInt8)) (ys := x0) el29 rfl rfl aa (Srcs.sc (Srcs.ofSl Try.underlying29 hs0 hI.st (by decide))) hI.st af (by decide) hI.size) rfl rfl ?_
  rintro _ ap ⟨am, an, rfl, aj, ag, ah⟩
  clear ah
  replace hI := hI.tok ag aa.out (aa.new (Nat.le_refl _))
  clear ag aa
  refine Ops_step (R_assign rfl) rfl rfl ?_
  refine Ops_nil ?_
  refine then_n (k7 _ _ ?_)
  clear k7 K7
  refine W_keepB [2] fun B_ b_ => ?_
  simp only [e_, Nat.reduceAdd, Nat.reduceBEq] at b_
  subst b_
  refine W_ret ?_
  refine ⟨_, ⟨_, _, rfl, rfl, rfl⟩, ?_⟩
  exact ⟨am, an, (([] : List UInt8) ++ x0), _, _, rfl, hI, (aj.hl (Le.no _)), h⟩

theorem journal_Journal_Put_ok {G : Gh} {w : World} (hS : St G w) (hg : GL G) {d0 : Nat} {z0 : journal_Journal} {au : Option Addr} {av : Nat} {d1 : Nat} {z1 : List (Int × Int)} (ag : MTok G G w d1 z1) {d2 : Nat} {z2 : disk_Disk} {a8 : Option Addr} {a9 : Nat} {ba : Option Addr} {bc : Nat} {bd : Option Addr} {be : Nat} (ah : Tok G w d2 53 ([.slice a8 z2.files_.e0_.length a9, .slice ba z2.files_.e1_.length bc, .slice bd z2.files_.e2_.length be, vi z2.room_, .bool z2.off_, .bool z2.armed_, vi z2.left_])) (ay : z2.files_.e0_.length ≤ a9) (ab : Sl G a8 z2.files_.e0_) (az : z2.files_.e1_.length ≤ bc) (ac : Sl G ba z2.files_.e1_) (a4 : z2.files_.e2_.length ≤ be) (ad : Sl G bd z2.files_.e2_) (ae : Tok G w d0 46 ([.slice au z0.book_.l_.length av, .map (some d1), .pointer (some ⟨d2, 0, none⟩), vi z0.gen_, vi z0.place_])) (ao : z0.book_.l_.length ≤ av) (aa : Sl G au z0.book_.l_) {x1 : Int} {A2 : Option Addr} {c2 : Nat} {x2 : List UInt8} (hc2 : x2.length ≤ c2) (hs2 : Sl G A2 x2) {Q : Int → journal_Journal → (List (Int × Int)) → disk_Disk → Prop} (h : journal_Journal_Put z0 z1 z2 x1 x2 Q) : Calls Try.prog 15 #[.pointer (some ⟨d0, 0, none⟩), vi x1, .slice A2 x2.length c2] w fun e w2 => ∃ (r0 : Int) (y0 : journal_Journal) (cv : Option Addr) (cw : Nat) (y1 : List (Int × Int)) (y2 : disk_Disk) (cx : Option Addr) (cy : Nat) (cz : Option Addr) (c5 : Nat) (c6 : Option Addr) (c7 : Nat) (L H : Gh), e = .returned (vi r0) ∧ Inv [d0, d1, d2] G w L H w2 ∧ Tok H w2 d0 46 ([.slice cv y0.book_.l_.length cw, .map (some d1), .pointer (some ⟨d2, 0, none⟩), vi y0.gen_, vi y0.place_]) ∧ y0.book_.l_.length ≤ cw ∧ Sl H cv y0.book_.l_ ∧ MTok H H w2 d1 y1 ∧ Tok H w2 d2 53 ([.slice cx y2.files_.e0_.length cy, .slice cz y2.files_.e1_.length c5, .slice c6 y2.files_.e2_.length c7, vi y2.room_, .bool y2.off_, .bool y2.armed_, vi y2.left_]) ∧ y2.files_.e0_.length ≤ cy ∧ Sl H cx y2.files_.e0_ ∧ y2.files_.e1_.length ≤ c5 ∧ Sl H cz y2.files_.e1_ ∧ y2.files_.e2_.length ≤ c7 ∧ Sl H c6 y2.files_.e2_ ∧ Q r0 y0 y1 y2 := by
 unfold journal_Journal_Put at h
 have hI := Inv.start (M := [d0, d1, d2]) hS
 refine calls_W 48 Try.func15 rfl Try.ntmps15 rfl [.tmp 6] rfl ?_
 have ca := ae.blk.lt
 have cb := ag.lt
 have cc := ah.blk.lt
 refine W_seq_k fun K1 k1 => ?_
 refine W_region [6] rfl (Ops_step (R_assign rfl) rfl rfl ?_)
 refine Ops_nil ?_
 refine then_n (k1 _ _ ?_)
 clear k1 K1
 refine W_seq_k fun K2 k2 => ?_
 refine W_block ?_
 refine W_seq_k fun K3 k3 => ?_
 refine W_region [10, 11, 9] rfl (Ops_step (R_move rfl) rfl rfl ?_)
 refine Ops_call (C_func bd39 rfl) rfl rfl ?_
 refine (journal_Journal_dead_ok (z0 := z0) (z1 := z1) (z2 := z2) hI.st (hg.up hI.le) ag ah ay ab az ac a4 ad ae ao aa h).mono ?_
 rintro _ fm ⟨ep, fo, ec, rfl, dm, h⟩
 refine Exists.elim (hI.call dm (by simp)) fun dn d8 => ?_
 have eq := hI.size
 replace hI := d8.1
 have cm := d8.2.1
 have d9 := d8.2.2
 clear d8
 replace aa := aa.up cm.hh
 replace ag := ag.up cm.hh cm (by simp)
 replace ab := ab.up cm.hh
 replace ac := ac.up cm.hh
 replace ad := ad.up cm.hh
 replace ah := ah.up cm (by simp)
 replace ae := ae.up cm (by simp)
 replace hs2 := hs2.up cm.hh
 clear dm cm d9
 refine ⟨_, rfl, ?_⟩
 refine Ops_step (R_assign rfl) rfl rfl ?_
 refine Ops_nil ?_
 refine then_n (k3 _ _ ?_)
 clear k3 K3
 refine W_cond rfl (fun df => ?_) (fun df => ?_)
 ·
  replace h := h.1 df
  refine W_seq_k fun K6 k6 => ?_
  refine W_region [6] rfl (Ops_step (R_assign rfl) rfl rfl ?_)
  refine Ops_nil ?_
  refine then_n (k6 _ _ ?_)
  clear k6 K6
  refine W_keepB [6] fun B_ b_ => ?_
  simp only [e_, Nat.reduceAdd, Nat.reduceBEq] at b_
  subst b_
  refine W_ret ?_
  refine block_ret ?_
  refine then_ret ?_
  clear k2 K2
  refine ⟨_, ⟨_, _, rfl, rfl, rfl⟩, ?_⟩
  exact ⟨6, z0, au, av, z1, z2, a8, a9, ba, bc, bd, be, _, _, rfl, hI, ae, ao, aa, ag, ah, ay, ab, az, ac, a4, ad, h⟩
 ·
  replace h := h.2 df
  refine ex_ h fun et dg h => ?_
  refine W_seq_join [0, 1, 2] [12] (fun vals_ w2 => ∃ (bw : Bool) (L H : Gh), vals_ = [.bool bw] ∧ et bw ∧ Inv [d0, d1, d2] G w L H w2 ∧ Le dn L ∧ Le ec H ∧ MTok H H w2 d1 z1 ∧ Tok H w2 d2 53 ([.slice a8 z2.files_.e0_.length a9, .slice ba z2.files_.e1_.length bc, .slice bd z2.files_.e2_.length be, vi z2.room_, .bool z2.off_, .bool z2.armed_, vi z2.left_]) ∧ Tok H w2 d0 46 ([.slice au z0.book_.l_.length av, .map (some d1), .pointer (some ⟨d2, 0, none⟩), vi z0.gen_, vi z0.place_]) ∧ True) (fun B_ b_ => ?_) (fun B_ b_ => ?_)
  ·
   simp only [e_, Nat.reduceAdd, Nat.reduceBEq] at b_
   subst b_
   clear dg
   have cd := Le.refl dn
   have aw := Le.refl ec
   refine W_region [13, 14, 15, 16, 17, 18, 12] rfl (Ops_step (R_move rfl) rfl rfl (Ops_step (R_lss rfl rfl) rfl rfl (Ops_step (R_move rfl) rfl rfl ?_)))
   refine Ops_split 15 rfl (fun dh => ?_) (fun dh => ?_)
   ·
    replace h := h.1 dh
    refine Ops_pass rfl rfl (Ops_pass rfl rfl (Ops_step (R_pick_true rfl rfl) rfl rfl (Ops_step (R_assign rfl) rfl rfl ?_)))
    refine Ops_nil ?_
    refine then_n ?_
    exact ⟨_, rfl, ⟨true, _, _, rfl, h, hI, cd, aw, ag, ah, ae, trivial⟩, ⟨rfl, rfl, rfl, trivial⟩⟩
   ·
    replace h := h.2 dh
    refine Ops_step (R_move rfl) rfl rfl (Ops_step (R_geq rfl rfl) rfl rfl (Ops_step (R_pick_false rfl rfl) rfl rfl (Ops_step (R_assign rfl) rfl rfl ?_)))
    refine Ops_nil ?_
    refine then_n ?_
    exact ⟨_, rfl, ⟨(decide (x1 ≥ 32)), _, _, rfl, h, hI, cd, aw, ag, ah, ae, trivial⟩, ⟨rfl, rfl, rfl, trivial⟩⟩
  ·
   simp only [e_, Nat.reduceAdd, Nat.reduceBEq] at b_
   subst b_
   clear h
   clear ae
   clear ag
   clear ah
   rintro _ fp ⟨bw, fq, ft, rfl, dp, dq, cd, aw, ag, ah, ae, -⟩
   replace hI := dq
   clear dq
   have h := dg bw dp
   clear dg dp
   replace aa := aa.up aw
   replace ab := ab.up aw
   replace ac := ac.up aw
   replace ad := ad.up aw
   replace hs2 := hs2.up aw
   refine W_cond rfl (fun ce => ?_) (fun ce => ?_)
   ·
    replace h := h.1 ce
    refine W_seq_k fun K11 k11 => ?_
    refine W_region [6] rfl (Ops_step (R_assign rfl) rfl rfl ?_)
    refine Ops_nil ?_
    refine then_n (k11 _ _ ?_)
    clear k11 K11
    refine W_ret ?_
    refine block_ret ?_
    refine then_ret ?_
    clear k2 K2
    refine ⟨_, ⟨_, _, rfl, rfl, rfl⟩, ?_⟩
    exact ⟨10, z0, au, av, z1, z2, a8, a9, ba, bc, bd, be, _, _, rfl, hI, ae, ao, aa, ag, ah, ay, ab, az, ac, a4, ad, h⟩
   ·
    replace h := h.2 ce
    refine W_seq_k fun K12 k12 => ?_
    refine W_region [20, 21, 22, 19] rfl (Ops_step (R_move rfl) rfl rfl (Ops_step (R_len Try.underlying29 rfl rfl) rfl rfl (Ops_step (R_gtr rfl rfl) rfl rfl (Ops_step (R_assign rfl) rfl rfl ?_))))
    refine Ops_nil ?_
    refine then_n (k12 _ _ ?_)
    clear k12 K12
    refine W_if rfl (fun cf => ?_) (fun cf => ?_)
    ·
     replace h := h.1 cf
     refine W_seq_k fun K14 k14 => ?_
     refine W_region [6] rfl (Ops_step (R_assign rfl) rfl rfl ?_)
     refine Ops_nil ?_
     refine then_n (k14 _ _ ?_)
     clear k14 K14
     refine W_keepB [6] fun B_ b_ => ?_
     simp only [e_, Nat.reduceAdd, Nat.reduceBEq] at b_
     subst b_
     refine W_ret ?_
     refine block_ret ?_
     refine then_ret ?_
     clear k2 K2
     refine ⟨_, ⟨_, _, rfl, rfl, rfl⟩, ?_⟩
     exact ⟨4, z0, au, av, z1, z2, a8, a9, ba, bc, bd, be, _, _, rfl, hI, ae, ao, aa, ag, ah, ay, ab, az, ac, a4, ad, h⟩
    ·
     replace h := h.2 cf
     refine W_skip ?_
     refine block_n ?_
     refine then_n (k2 _ _ ?_)
     clear k2 K2
     refine W_seq_k fun K16 k16 => ?_
     refine W_region [23, 24, 25, 26, 7, none] rfl (Ops_step (R_move rfl) rfl rfl (Ops_step (R_move rfl) rfl rfl ?_))
     refine Ops_call (C_func bd32 rfl) rfl rfl ?_
     refine (slices_Clone_sl_byte_byte_ok (x0 := x2) hI.st (hg.up hI.le) hc2 hs2 h).mono ?_
     rintro _ eu ⟨bx, bz, b4, ew, ex, rfl, c8, an, h⟩
     refine Exists.elim (hI.call c8 (by simp)) fun ee co => ?_
     have dr := hI.size
     replace hI := co.1
     have bh := co.2.1
     have dt := co.2.2
     clear co
     replace aa := aa.up bh.hh
     replace ab := ab.up bh.hh
     replace ac := ac.up bh.hh
     replace ad := ad.up bh.hh
     replace ag := ag.up bh.hh bh (by simp)
     replace ah := ah.up bh (by simp)
     replace ae := ae.up bh (by simp)
     replace an := OwnS.backS an dr (Le.refl _)
     clear c8 bh dt
     refine ⟨_, rfl, ?_⟩
     refine Exists.elim (an.freeze hI) fun ey b6 => Exists.elim b6 fun du b6 => ?_
     replace hI := b6.1
     have bi := b6.2.1
     have ax := b6.2.2.1 (Le.no _)
     have c9 := an.cap
     replace aa := aa.up bi.hh
     replace ab := ab.up bi.hh
     replace ac := ac.up bi.hh
     replace ad := ad.up bi.hh
     replace ag := ag.up bi.hh bi (an.old cb)
     replace ah := ah.up bi (an.old cc)
     replace ae := ae.up bi (an.old ca)
     clear b6 bi an
     refine Ops_step (R_build (pl := [(0, 1), (1, 1)]) (cs := [vi x1, .slice bx b4.length bz]) zr85 pl85 rfl rfl rfl) rfl rfl ?_
     have di := hI
     refine Ops_to (R_alloc zr85) rfl rfl ?_
     rintro _ ez ⟨dj, rfl, cg, da, bl⟩
     replace hI := hI.fr0 bl
     replace ag := ag.fr0 bl
     replace ah := ah.fr0 bl
     replace ae := ae.fr0 bl
     have af : Tok du _ dj 85 ([vi 0, .slice none 0 0]) := ⟨da.to rfl, Out.ge di.st (Nat.le_of_eq cg.symm)⟩
     have ci : w.heap.size ≤ dj := cg ▸ di.size
     clear da cg di bl
     refine Ops_to0 (R_storeN sz85 rfl rfl rfl af.blk (Nat.le_of_ble_eq_true rfl) rfl) rfl ?_
     rintro _ e5 ⟨db, bm⟩
     replace hI := hI.tok bm (out1 af.out) (new1 ci)
     replace ag := ag.fr bm (ag.neT af)
     replace ah := ah.fr bm (ah.apart af (by decide))
     replace ae := ae.fr bm (ae.apart af (by decide))
     replace af : Tok du _ dj 85 ([vi x1, .slice bx b4.length bz]) := ⟨db, af.out⟩
     clear bm db
     refine Ops_nil ?_
     refine then_n (k16 _ _ ?_)
     clear k16 K16
     refine W_keepB [0, 7] fun B_ b_ => ?_
     simp only [e_, Nat.reduceAdd, Nat.reduceBEq] at b_
     subst b_
     refine W_seq_k fun K22 k22 => ?_
     refine W_seq_k fun K23 k23 => ?_
     refine W_drawF [27, 28, 29, 30, 31, 32, 33, 34, 35, 36, 37, 38, 39, 8] [(0, true), (1, true), (2, true), (3, true), (4, true), (5, true), (6, true), (7, true), (8, true), (9, true), (10, true), (11, false), (12, false), (13, true)] TJtE.hm rfl (by kernel_rfl) fun ea e8 bj bf => ?_
     replace hI := hI.fr0 bf
     replace ag := ag.fr0 bf
     replace ah := ah.fr0 bf
     replace ae := ae.fr0 bf
     replace af := af.fr0 bf
     clear bf
     refine HSp (R_move rfl) rfl rfl (HSp (R_nilCheck rfl) rfl rfl (HSp (R_fieldAddr fo46_1 rfl) rfl rfl ?_))
     refine HS_loadB (v := .pointer (some ⟨d2, 0, none⟩)) ag25 rfl ae.blk rfl rfl rfl ?_
     refine HSp (R_move rfl) rfl rfl (HSp (R_nilCheck rfl) rfl rfl (HSp (R_fieldAddr fo46_0 rfl) rfl rfl (HSp (R_fieldAddr fo44_0 rfl) rfl rfl ?_)))
     refine HS_loadB (v := .slice au z0.book_.l_.length av) ag41 rfl ae.blk rfl rfl rfl ?_
     refine HSp (R_len Try.underlying41 rfl rfl) rfl rfl ?_
     refine HS_loadN ag85 sz85 rfl af.blk (Nat.le_of_ble_eq_true rfl) rfl rfl ?_
     refine HS_call [3] _ rfl (by rw [bj]; kernel_rfl) (C_func bd41 rfl) rfl rfl ?_
     refine (journal_tell_ok (x0 := (z0.book_.l_.length : Int)) (x1 := (journal_record.mk x1 b4)) hI.st (hg.up hI.le) ⟨bx, bz, rfl, ⟨c9, (ax.up hI.sub)⟩⟩ h).mono ?_
     rintro _ e9 ⟨eg, eh, dv, fa, fb, rfl, dc, am, h⟩
     refine Exists.elim (hI.call dc (by simp)) fun ei cp => ?_
     have dw := hI.size
     replace hI := cp.1
     have a5 := cp.2.1
     have dx := cp.2.2
     clear cp
     replace aa := aa.up a5.hh
     replace ab := ab.up a5.hh
     replace ac := ac.up a5.hh
     replace ad := ad.up a5.hh
     replace ag := ag.up a5.hh a5 (by simp)
     replace ah := ah.up a5 (by simp)
     replace ae := ae.up a5 (by simp)
     replace ax := ax.up a5.ll
     replace af := af.up a5 (by simp)
     replace am := OwnS.backS am dw (Le.refl _)
     clear dc a5 dx
     refine ⟨_, rfl, ⟨(ae.blk.at_ rfl), trivial⟩, ?_⟩
     refine Exists.elim (am.freeze hI) fun fc b7 => Exists.elim b7 fun fd b7 => ?_
     replace hI := b7.1
     have a6 := b7.2.1
     have dy := b7.2.2.1 (Le.no _)
     have dz := am.cap
     replace aa := aa.up a6.hh
     replace ab := ab.up a6.hh
     replace ac := ac.up a6.hh
     replace ad := ad.up a6.hh
     replace ag := ag.up a6.hh a6 (am.old cb)
     replace ah := ah.up a6 (am.old cc)
     replace ae := ae.up a6 (am.old ca)
     replace ax := ax.up a6.ll
     replace af := af.up a6 (af.sep am (by decide))
     clear b7 a6 am
     refine HS_call [] _ rfl (by rw [bj]; kernel_rfl) (C_func bd26 rfl) rfl rfl ?_
     refine (disk_Disk_Append_ok (x1 := 0) (x2 := dv) (z0 := z2) hI.st (hg.up hI.le) ah ay ab az ac a4 ad dz (dy.up hI.sub) h).mono ?_
     rintro _ fe ⟨d5, bu, bn, bo, bp, bq, br, bt, ff, fg, rfl, dd, ai, ap, aj, aq, ak, ar, al, h⟩
     refine Exists.elim (hI.call dd (mem1 (by simp))) fun ej cq => ?_
     have ek := hI.size
     replace hI := cq.1
     have a7 := cq.2.1
     have d6 := cq.2.2
     clear cq
     replace aa := aa.up a7.hh
     replace ab := ab.up a7.hh
     replace ac := ac.up a7.hh
     replace ad := ad.up a7.hh
     replace ag := ag.up a7.hh a7 (ag.neT ah)
     replace ae := ae.up a7 (ae.apart ah (by decide))
     replace ax := ax.up a7.ll
     replace af := af.up a7 (af.apart ah (by decide))
     clear ah
     clear dd a7 d6
     refine ⟨_, rfl, trivial, ?_⟩
     refine HSp (R_assign rfl) rfl rfl ?_
     refine HS_nil ?_
     clear bj
     refine then_n (k23 _ _ ?_)
     clear k23 K23
     refine W_keepB [0, 7, 8] fun B_ b_ => ?_
     simp only [e_, Nat.reduceAdd, Nat.reduceBEq] at b_
     subst b_
     refine W_seq_k fun K29 k29 => ?_
     refine W_region [40, 41] rfl (Ops_step (R_move rfl) rfl rfl (Ops_step (R_neq rfl rfl) rfl rfl ?_))
     refine Ops_nil ?_
     refine then_n (k29 _ _ ?_)
     clear k29 K29
     refine W_if rfl (fun cj => ?_) (fun cj => ?_)
     ·
      replace h := h.1 cj
      refine W_seq_k fun K31 k31 => ?_
      refine W_region [42, 6] rfl (Ops_step (R_move rfl) rfl rfl (Ops_step (R_assign rfl) rfl rfl ?_))
      refine Ops_nil ?_
      refine then_n (k31 _ _ ?_)
      clear k31 K31
      refine W_keepB [6] fun B_ b_ => ?_
      simp only [e_, Nat.reduceAdd, Nat.reduceBEq] at b_
      subst b_
      refine W_ret ?_
      refine then_ret ?_
      clear k22 K22
      refine ⟨_, ⟨_, _, rfl, rfl, rfl⟩, ?_⟩
      exact ⟨d5, z0, au, av, z1, bu, bn, bo, bp, bq, br, bt, _, _, rfl, hI, ae, ao, aa, ag, ai, ap, aj, aq, ak, ar, al, h⟩
     ·
      replace h := h.2 cj
      refine W_skip ?_
      refine then_n (k22 _ _ ?_)
      clear k22 K22
      refine W_seq_k fun K33 k33 => ?_
      refine W_drawF [43, 44, 45, 46, 47] [(0, true), (1, true), (2, true), (3, true), (4, false)] TJtE.hm rfl (by kernel_rfl) fun eb fh b5 bg => ?_
      replace hI := hI.fr0 bg
      replace ag := ag.fr0 bg
      replace ae := ae.fr0 bg
      replace af := af.fr0 bg
      replace ai := ai.fr0 bg
      clear bg
      refine HSp (R_move rfl) rfl rfl (HSp (R_nilCheck rfl) rfl rfl (HSp (R_fieldAddr fo46_0 rfl) rfl rfl ?_))
      refine HS_loadN ag85 sz85 rfl af.blk (Nat.le_of_ble_eq_true rfl) rfl rfl ?_
      refine HS_call [] _ rfl (by rw [b5]; kernel_rfl) (C_func bd43 rfl) rfl rfl ?_
      refine (journal_book_add_ok (x1 := (journal_record.mk x1 b4)) (z0 := z0) (z1 := z1) (z2 := bu) hI.st (hg.up hI.le) ag ai ap aj aq ak ar al ae ao aa ⟨bx, bz, rfl, ⟨c9, (ax.up hI.sub)⟩⟩ h).mono ?_
      rintro _ fi ⟨dk, ck, cl, dl, fj, fk, rfl, de, cr, b8, b9, ct, h⟩
      refine Exists.elim (hI.call de (memO (by simp) (memO (by simp) memN))) fun en cu => ?_
      have eo := hI.size
      replace hI := cu.1
      have bv := cu.2.1
      have d7 := cu.2.2
      clear cu
      replace aa := aa.up bv.hh
      replace af := af.up bv (niA (af.apart ae (by decide)) (niA (af.neM ag) List.not_mem_nil))
      replace ai := ai.up bv (niA (ai.apart ae (by decide)) (niA (ai.neM ag) List.not_mem_nil))
      replace aj := aj.up bv.hh
      replace ak := ak.up bv.hh
      replace al := al.up bv.hh
      clear ae
      clear ag
      clear de bv d7
      refine ⟨_, rfl, trivial, ?_⟩
      refine HS_nil ?_
      clear b5
      refine then_n (k33 _ _ ?_)
      clear k33 K33
      refine W_keepB [] fun B_ b_ => ?_
      simp only [e_, Nat.reduceAdd, Nat.reduceBEq] at b_
      subst b_
      refine W_seq_k fun K37 k37 => ?_
      refine W_region [6] rfl (Ops_step (R_assign rfl) rfl rfl ?_)
      refine Ops_nil ?_
      refine then_n (k37 _ _ ?_)
      clear k37 K37
      refine W_ret ?_
      refine ⟨_, ⟨_, _, rfl, rfl, rfl⟩, ?_⟩
      exact ⟨0, dk, ck, cl, dl, bu, bn, bo, bp, bq, br, bt, _, _, rfl, hI, cr, b8, b9, ct, ai, ap, aj, aq, ak, ar, al, h⟩

theorem disk_Disk_Arm_ok {G : Gh} {w : World} (hS : St G w) (hg : GL G) {d0 : Nat} {z0 : disk_Disk} {ae : Option Addr} {af : Nat} {ag : Option Addr} {ah : Nat} {ai : Option Addr} {aj : Nat} (aa : Tok G w d0 53 ([.slice ae z0.files_.e0_.length af, .slice ag z0.files_.e1_.length ah, .slice ai z0.files_.e2_.length aj, vi z0.room_, .bool z0.off_, .bool z0.armed_, vi z0.left_])) (ak : z0.files_.e0_.length ≤ af) (ab : Sl G ae z0.files_.e0_) (al : z0.files_.e1_.length ≤ ah) (ac : Sl G ag z0.files_.e1_) (am : z0.files_.e2_.length ≤ aj) (ad : Sl G ai z0.files_.e2_) {x1 : Int} {Q : Int → disk_Disk → Prop} (h : disk_Disk_Arm z0 x1 Q) : Calls Try.prog 21 #[.pointer (some ⟨d0, 0, none⟩), vi x1] w fun e w2 => ∃ (r0 : Int) (y0 : disk_Disk) (ao : Option Addr) (ap : Nat) (aq : Option Addr) (ar : Nat) (au : Option Addr) (av : Nat) (L H : Gh), e = .returned (vi r0) ∧ Inv [d0] G w L H w2 ∧ Tok H w2 d0 53 ([.slice ao y0.files_.e0_.length ap, .slice aq y0.files_.e1_.length ar, .slice au y0.files_.e2_.length av, vi y0.room_, .bool y0.off_, .bool y0.armed_, vi y0.left_]) ∧ y0.files_.e0_.length ≤ ap ∧ Sl H ao y0.files_.e0_ ∧ y0.files_.e1_.length ≤ ar ∧ Sl H aq y0.files_.e1_ ∧ y0.files_.e2_.length ≤ av ∧ Sl H au y0.files_.e2_ ∧ Q r0 y0 := by
 unfold disk_Disk_Arm at h
 have hI := Inv.start (M := [d0]) hS
 refine calls_W 22 Try.func21 rfl Try.ntmps21 rfl [.tmp 4] rfl ?_
 have a8 := aa.blk.lt
 refine W_seq_k fun K1 k1 => ?_
 refine W_region [4] rfl (Ops_step (R_assign rfl) rfl rfl ?_)
 refine Ops_nil ?_
 refine then_n (k1 _ _ ?_)
 clear k1 K1
 refine W_seq_k fun K2 k2 => ?_
 refine W_region [6, 7, 5] rfl (Ops_step (R_move rfl) rfl rfl ?_)
 refine Ops_call (C_func bd48 rfl) rfl rfl ?_
 refine (disk_Disk_able_ok (x1 := 0) (z0 := z0) hI.st (hg.up hI.le) aa ak ab al ac am ad h).mono ?_
 rintro _ bh ⟨a9, bi, bc, rfl, a5, h⟩
 refine Exists.elim (hI.call a5 (by simp)) fun bd a7 => ?_
 have be := hI.size
 replace hI := a7.1
 have a6 := a7.2.1
 have ba := a7.2.2
 clear a7
 replace ab := ab.up a6.hh
 replace ac := ac.up a6.hh
 replace ad := ad.up a6.hh
 replace aa := aa.up a6 (by simp)
 clear a5 a6 ba
 refine ⟨_, rfl, ?_⟩
 refine Ops_step (R_assign rfl) rfl rfl ?_
 refine Ops_nil ?_
 refine then_n (k2 _ _ ?_)
 clear k2 K2
 refine W_seq_k fun K4 k4 => ?_
 refine W_block ?_
 refine W_seq_k fun K5 k5 => ?_
 refine W_region [9, 10, 8] rfl (Ops_step (R_move rfl) rfl rfl (Ops_step (R_neq rfl rfl) rfl rfl (Ops_step (R_assign rfl) rfl rfl ?_)))
 refine Ops_nil ?_
 refine then_n (k5 _ _ ?_)
 clear k5 K5
 refine W_if rfl (fun a4 => ?_) (fun a4 => ?_)
 ·
  replace h := h.1 a4
  refine W_seq_k fun K7 k7 => ?_
  refine W_region [11, 4] rfl (Ops_step (R_move rfl) rfl rfl (Ops_step (R_assign rfl) rfl rfl ?_))
  refine Ops_nil ?_
  refine then_n (k7 _ _ ?_)
  clear k7 K7
  refine W_keepB [4] fun B_ b_ => ?_
  simp only [e_, Nat.reduceAdd, Nat.reduceBEq] at b_
  subst b_
  refine W_ret ?_
  refine block_ret ?_
  refine then_ret ?_
  clear k4 K4
  refine ⟨_, ⟨_, _, rfl, rfl, rfl⟩, ?_⟩
  exact ⟨a9, z0, ae, af, ag, ah, ai, aj, _, _, rfl, hI, aa, ak, ab, al, ac, am, ad, h⟩
 ·
  replace h := h.2 a4
  refine W_seq_k fun K9 k9 => ?_
  refine W_region [13, 14, 12] rfl (Ops_step (R_move rfl) rfl rfl (Ops_step (R_lss rfl rfl) rfl rfl (Ops_step (R_assign rfl) rfl rfl ?_)))
  refine Ops_nil ?_
  refine then_n (k9 _ _ ?_)
  clear k9 K9
  refine W_keepB [0, 1, 12] fun B_ b_ => ?_
  simp only [e_, Nat.reduceAdd, Nat.reduceBEq] at b_
  subst b_
  refine W_if rfl (fun an => ?_) (fun an => ?_)
  ·
   replace h := h.1 an
   refine W_seq_k fun K12 k12 => ?_
   refine W_region [4] rfl (Ops_step (R_assign rfl) rfl rfl ?_)
   refine Ops_nil ?_
   refine then_n (k12 _ _ ?_)
   clear k12 K12
   refine W_ret ?_
   refine block_ret ?_
   refine then_ret ?_
   clear k4 K4
   refine ⟨_, ⟨_, _, rfl, rfl, rfl⟩, ?_⟩
   exact ⟨1, z0, ae, af, ag, ah, ai, aj, _, _, rfl, hI, aa, ak, ab, al, ac, am, ad, h⟩
  ·
   replace h := h.2 an
   refine W_skip ?_
   refine block_n ?_
   refine then_n (k4 _ _ ?_)
   clear k4 K4
   refine W_seq_k fun K13 k13 => ?_
   refine W_region [15, 16, 17, 18, 19, none, 20, 21, none] rfl (Ops_step (R_move rfl) rfl rfl (Ops_step (R_move rfl) rfl rfl (Ops_step (R_move rfl) rfl rfl (Ops_step (R_nilCheck rfl) rfl rfl ?_))))
   refine Ops_step (R_fieldAddr fo53_3 rfl) rfl rfl ?_
   refine Ops_to0 (R_store sz4 rfl rfl aa.blk (by show 5 < 7; decide) rfl) rfl ?_
   rintro _ bf ⟨aw, ax⟩
   replace hI := hI.tok ax (out1 aa.out) (mem1 (by simp))
   replace aa : Tok bc _ d0 53 ([.slice ae z0.files_.e0_.length af, .slice ag z0.files_.e1_.length ah, .slice ai z0.files_.e2_.length aj, vi z0.room_, .bool z0.off_, .bool true, vi z0.left_]) := ⟨aw, aa.out⟩
   clear ax aw
   refine Ops_step (R_nilCheck rfl) rfl rfl (Ops_step (R_fieldAddr fo53_4 rfl) rfl rfl ?_)
   refine Ops_to0 (R_store sz3 rfl rfl aa.blk (by show 6 < 7; decide) rfl) rfl ?_
   rintro _ bg ⟨ay, az⟩
   replace hI := hI.tok az (out1 aa.out) (mem1 (by simp))
   replace aa : Tok bc _ d0 53 ([.slice ae z0.files_.e0_.length af, .slice ag z0.files_.e1_.length ah, .slice ai z0.files_.e2_.length aj, vi z0.room_, .bool z0.off_, .bool true, vi x1]) := ⟨ay, aa.out⟩
   clear az ay
   refine Ops_nil ?_
   refine then_n (k13 _ _ ?_)
   clear k13 K13
   refine W_keepB [] fun B_ b_ => ?_
   simp only [e_, Nat.reduceAdd, Nat.reduceBEq] at b_
   subst b_
   refine W_seq_k fun K17 k17 => ?_
   refine W_region [4] rfl (Ops_step (R_assign rfl) rfl rfl ?_)
   refine Ops_nil ?_
   refine then_n (k17 _ _ ?_)
   clear k17 K17
   refine W_ret ?_
   refine ⟨_, ⟨_, _, rfl, rfl, rfl⟩, ?_⟩
   exact ⟨0, (disk_Disk.mk z0.files_ z0.room_ z0.off_ true x1), ae, af, ag, ah, ai, aj, _, _, rfl, hI, aa, ak, ab, al, ac, am, ad, h⟩

theorem disk_Disk_Start_ok {G : Gh} {w : World} (hS : St G w) (hg : GL G) {d0 : Nat} {z0 : disk_Disk} {ab : Option Addr} {ac : Nat} {ad : Option Addr} {ae : Nat} {af : Option Addr} {ag : Nat} (aa : Tok G w d0 53 ([.slice ab z0.files_.e0_.length ac, .slice ad z0.files_.e1_.length ae, .slice af z0.files_.e2_.length ag, vi z0.room_, .bool z0.off_, .bool z0.armed_, vi z0.left_])) (am : z0.files_.e0_.length ≤ ac) (ah : Sl G ab z0.files_.e0_) (an : z0.files_.e1_.length ≤ ae) (ai : Sl G ad z0.files_.e1_) (ao : z0.files_.e2_.length ≤ ag) (aj : Sl G af z0.files_.e2_) {Q : Int → disk_Disk → Prop} (h : disk_Disk_Start z0 Q) : Calls Try.prog 22 #[.pointer (some ⟨d0, 0, none⟩)] w fun e w2 => ∃ (r0 : Int) (y0 : disk_Disk) (ap : Option Addr) (aq : Nat) (ar : Option Addr) (au : Nat) (av : Option Addr) (aw : Nat) (L H : Gh), e = .returned (vi r0) ∧ Inv [d0] G w L H w2 ∧ Tok H w2 d0 53 ([.slice ap y0.files_.e0_.length aq, .slice ar y0.files_.e1_.length au, .slice av y0.files_.e2_.length aw, vi y0.room_, .bool y0.off_, .bool y0.armed_, vi y0.left_]) ∧ y0.files_.e0_.length ≤ aq ∧ Sl H ap y0.files_.e0_ ∧ y0.files_.e1_.length ≤ au ∧ Sl H ar y0.files_.e1_ ∧ y0.files_.e2_.length ≤ aw ∧ Sl H av y0.files_.e2_ ∧ Q r0 y0 := by
 unfold disk_Disk_Start at h
 have hI := Inv.start (M := [d0]) hS
 refine calls_W 15 Try.func22 rfl Try.ntmps22 rfl [.tmp 2] rfl ?_
 have a8 := aa.blk.lt
 refine W_seq_k fun K1 k1 => ?_
 refine W_region [2] rfl (Ops_step (R_assign rfl) rfl rfl ?_)
 refine Ops_nil ?_
 refine then_n (k1 _ _ ?_)
 clear k1 K1
 refine W_seq_k fun K2 k2 => ?_
 refine ex_ h fun a9 ay h => ?_
 refine W_seq_join [0] [11] (fun vals_ w2 => ∃ (al : Bool) (L H : Gh), vals_ = [.bool al] ∧ a9 al ∧ Inv [d0] G w L H w2 ∧ Le Gh.no L ∧ Le G H ∧ Tok H w2 d0 53 ([.slice ab z0.files_.e0_.length ac, .slice ad z0.files_.e1_.length ae, .slice af z0.files_.e2_.length ag, vi z0.room_, .bool z0.off_, .bool z0.armed_, vi z0.left_]) ∧ True) (fun B_ b_ => ?_) (fun B_ b_ => ?_)
 ·
  simp only [e_, Nat.reduceAdd, Nat.reduceBEq] at b_
  subst b_
  clear ay
  have ax := Le.refl Gh.no
  have ak := Le.refl G
  refine W_region [3, 4, 5, 6, 7, 8, 9, 10, 11] rfl (Ops_step (R_move rfl) rfl rfl (Ops_step (R_ptrNil Try.underlying25 rfl rfl) rfl rfl (Ops_step (R_move rfl) rfl rfl (Ops_step (R_move rfl) rfl rfl ?_))))
  refine Ops_step (R_nilCheck rfl) rfl rfl (Ops_step (R_fieldAddr fo53_1 rfl) rfl rfl ?_)
  refine Ops_step (R_loadB (v := vi z0.room_) ag3 rfl aa.blk rfl) rfl rfl ?_
  refine Ops_step (R_eql rfl rfl) rfl rfl (Ops_step (R_pick_false rfl rfl) rfl rfl ?_)
  refine Ops_nil ?_
  refine then_n ?_
  exact ⟨_, rfl, ⟨(decide (z0.room_ = 0)), _, _, rfl, h, hI, ax, ak, aa, trivial⟩, ⟨rfl, trivial⟩⟩
 ·
  simp only [e_, Nat.reduceAdd, Nat.reduceBEq] at b_
  subst b_
  clear h
  clear aa
  rintro _ bc ⟨al, bd, ba, rfl, a4, a5, ax, ak, aa, -⟩
  replace hI := a5
  clear a5
  have h := ay al a4
  clear ay a4
  replace ah := ah.up ak
  replace ai := ai.up ak
  replace aj := aj.up ak
  refine W_cond rfl (fun az => ?_) (fun az => ?_)
  ·
   replace h := h.1 az
   refine W_seq_k fun K5 k5 => ?_
   refine W_region [2] rfl (Ops_step (R_assign rfl) rfl rfl ?_)
   refine Ops_nil ?_
   refine then_n (k5 _ _ ?_)
   clear k5 K5
   refine W_ret ?_
   refine then_ret ?_
   clear k2 K2
   refine ⟨_, ⟨_, _, rfl, rfl, rfl⟩, ?_⟩
   exact ⟨6, z0, ab, ac, ad, ae, af, ag, _, _, rfl, hI, aa, am, ah, an, ai, ao, aj, h⟩
  ·
   replace h := h.2 az
   refine W_skip ?_
   refine then_n (k2 _ _ ?_)
   clear k2 K2
   refine W_seq_k fun K6 k6 => ?_
   refine W_region [12, 13, 14, none] rfl (Ops_step (R_move rfl) rfl rfl (Ops_step (R_nilCheck rfl) rfl rfl (Ops_step (R_fieldAddr fo53_2 rfl) rfl rfl ?_)))
   refine Ops_to0 (R_store sz4 rfl rfl aa.blk (by show 4 < 7; decide) rfl) rfl ?_
   rintro _ be ⟨a6, a7⟩
   replace hI := hI.tok a7 (out1 aa.out) (mem1 (by simp))
   replace aa : Tok ba _ d0 53 ([.slice ab z0.files_.e0_.length ac, .slice ad z0.files_.e1_.length ae, .slice af z0.files_.e2_.length ag, vi z0.room_, .bool false, .bool z0.armed_, vi z0.left_]) := ⟨a6, aa.out⟩
   clear a7 a6
   refine Ops_nil ?_
   refine then_n (k6 _ _ ?_)
   clear k6 K6
   refine W_seq_k fun K8 k8 => ?_
   refine W_region [2] rfl (Ops_step (R_assign rfl) rfl rfl ?_)
   refine Ops_nil ?_
   refine then_n (k8 _ _ ?_)
   clear k8 K8
   refine W_ret ?_
   refine ⟨_, ⟨_, _, rfl, rfl, rfl⟩, ?_⟩
   exact ⟨0, (disk_Disk.mk z0.files_ z0.room_ false z0.armed_ z0.left_), ab, ac, ad, ae, af, ag, _, _, rfl, hI, aa, am, ah, an, ai, ao, aj, h⟩

theorem journal_Journal_At_ok {G : Gh} {w : World} (hS : St G w) (hg : GL G) {d0 : Nat} {z0 : journal_Journal} {aj : Option Addr} {ak : Nat} {d1 : Nat} {z1 : List (Int × Int)} (ag : MTok G G w d1 z1) {d2 : Nat} {z2 : disk_Disk} {av : Option Addr} {aw : Nat} {ax : Option Addr} {ay : Nat} {az : Option Addr} {a4 : Nat} (ah : Tok G w d2 53 ([.slice av z2.files_.e0_.length aw, .slice ax z2.files_.e1_.length ay, .slice az z2.files_.e2_.length a4, vi z2.room_, .bool z2.off_, .bool z2.armed_, vi z2.left_])) (bc : z2.files_.e0_.length ≤ aw) (ad : Sl G av z2.files_.e0_) (bd : z2.files_.e1_.length ≤ ay) (ae : Sl G ax z2.files_.e1_) (be : z2.files_.e2_.length ≤ a4) (af : Sl G az z2.files_.e2_) (ab : Tok G w d0 46 ([.slice aj z0.book_.l_.length ak, .map (some d1), .pointer (some ⟨d2, 0, none⟩), vi z0.gen_, vi z0.place_])) (bf : z0.book_.l_.length ≤ ak) (aa : Sl G aj z0.book_.l_) {x1 : Int} {Q : Int → (List UInt8) → Bool → Prop} (h : journal_Journal_At z0 z1 z2 x1 Q) : Calls Try.prog 18 #[.pointer (some ⟨d0, 0, none⟩), vi x1] w fun e w2 => ∃ (r0 : Int) (A1 : Option Addr) (c1 : Nat) (r1 : List UInt8) (r2 : Bool) (L H : Gh), e = .returned (.tuple #[vi r0, .slice A1 r1.length c1, .bool r2]) ∧ Inv [] G w L H w2 ∧ OwnS w.heap.size 5 L H w2 A1 c1 r1 ∧ Q r0 r1 r2 := by
 unfold journal_Journal_At at h
 have hI := Inv.start (M := []) hS
 refine calls_W 42 Try.func18 rfl Try.ntmps18 rfl [.tmp 4, .tmp 5, .tmp 6] rfl ?_
 have ca := ab.blk.lt
 have cb := ag.lt
 have cc := ah.blk.lt
 refine W_seq_k fun K1 k1 => ?_
 refine W_region [4, 5, 6] rfl (Ops_step (R_assign rfl) rfl rfl (Ops_step (R_assign rfl) rfl rfl (Ops_step (R_assign rfl) rfl rfl ?_)))
 refine Ops_nil ?_
 refine then_n (k1 _ _ ?_)
 clear k1 K1
 refine W_seq_k fun K2 k2 => ?_
 refine ex_ h fun cl bg h => ?_
 refine W_seq_join [0, 1] [22] (fun vals_ w2 => ∃ (ao : Bool) (L H : Gh), vals_ = [.bool ao] ∧ cl ao ∧ Inv [] G w L H w2 ∧ Le Gh.no L ∧ Le G H ∧ MTok H H w2 d1 z1 ∧ Tok H w2 d2 53 ([.slice av z2.files_.e0_.length aw, .slice ax z2.files_.e1_.length ay, .slice az z2.files_.e2_.length a4, vi z2.room_, .bool z2.off_, .bool z2.armed_, vi z2.left_]) ∧ Tok H w2 d0 46 ([.slice aj z0.book_.l_.length ak, .map (some d1), .pointer (some ⟨d2, 0, none⟩), vi z0.gen_, vi z0.place_]) ∧ True) (fun B_ b_ => ?_) (fun B_ b_ => ?_)
 ·
  simp only [e_, Nat.reduceAdd, Nat.reduceBEq] at b_
  subst b_
  clear bg
  have al := Le.refl Gh.no
  have ac := Le.refl G
  refine W_region [7, 8, 9, 10, 11, 12, 13, 14, 15, 16, 17, 18, 19, 20, 21, 22] rfl (Ops_step (R_move rfl) rfl rfl ?_)
  refine Ops_call (C_func bd39 rfl) rfl rfl ?_
  refine (journal_Journal_dead_ok (z0 := z0) (z1 := z1) (z2 := z2) hI.st (hg.up hI.le) ag ah bc ad bd ae be af ab bf aa h).mono ?_
  rintro _ cx ⟨cm, cy, cz, rfl, bn, h⟩
  refine Exists.elim (hI.call bn (by simp)) fun co b9 => ?_
  have cp := hI.size
  replace hI := b9.1
  have a5 := b9.2.1
  have cd := b9.2.2
  clear b9
  replace aa := aa.up a5.hh
  replace ag := ag.up a5.hh a5 (by simp)
  replace ad := ad.up a5.hh
  replace ae := ae.up a5.hh
  replace af := af.up a5.hh
  replace ah := ah.up a5 (by simp)
  replace ab := ab.up a5 (by simp)
  replace al := al.trans a5.ll
  replace ac := ac.trans a5.hh
  clear bn a5 cd
  refine ⟨_, rfl, ?_⟩
  refine Ops_step (R_move rfl) rfl rfl ?_
  refine Ops_splitB 9 rfl (fun bh => ?_) (fun bh => ?_)
  ·
   replace h := h.1 bh
   refine Ops_pass rfl rfl (Ops_pass rfl rfl (Ops_step (R_pick_true rfl rfl) rfl rfl (Ops_step (R_move rfl) rfl rfl (Ops_pass rfl rfl ?_))))
   refine Ops_pass rfl rfl (Ops_pass rfl rfl (Ops_pass rfl rfl (Ops_pass rfl rfl (Ops_pass rfl rfl ?_))))
   refine Ops_pass rfl rfl (Ops_pass rfl rfl (Ops_step (R_pick_true rfl rfl) rfl rfl ?_))
   refine Ops_nil ?_
   refine then_n ?_
   exact ⟨_, rfl, ⟨true, _, _, rfl, h, hI, al, ac, ag, ah, ab, trivial⟩, ⟨rfl, rfl, trivial⟩⟩
  ·
   replace h := h.2 bh
   refine Ops_step (R_move rfl) rfl rfl (Ops_step (R_lss rfl rfl) rfl rfl (Ops_step (R_pick_false rfl rfl) rfl rfl (Ops_step (R_move rfl) rfl rfl ?_)))
   refine Ops_split 13 rfl (fun bi => ?_) (fun bi => ?_)
   ·
    replace h := h.1 bi
    refine Ops_pass rfl rfl (Ops_pass rfl rfl (Ops_pass rfl rfl (Ops_pass rfl rfl (Ops_pass rfl rfl ?_))))
    refine Ops_pass rfl rfl (Ops_pass rfl rfl (Ops_pass rfl rfl (Ops_step (R_pick_true rfl rfl) rfl rfl ?_)))
    refine Ops_nil ?_
    refine then_n ?_
    exact ⟨_, rfl, ⟨true, _, _, rfl, h, hI, al, ac, ag, ah, ab, trivial⟩, ⟨rfl, rfl, trivial⟩⟩
   ·
    replace h := h.2 bi
    refine Ops_step (R_move rfl) rfl rfl (Ops_step (R_move rfl) rfl rfl (Ops_step (R_nilCheck rfl) rfl rfl (Ops_step (R_fieldAddr fo46_0 rfl) rfl rfl (Ops_step (R_fieldAddr fo44_0 rfl) rfl rfl ?_))))
    refine Ops_step (R_loadB (v := .slice aj z0.book_.l_.length ak) ag41 rfl ab.blk rfl) rfl rfl ?_
    refine Ops_step (R_len Try.underlying41 rfl rfl) rfl rfl (Ops_step (R_geq rfl rfl) rfl rfl (Ops_step (R_pick_false rfl rfl) rfl rfl ?_))
    refine Ops_nil ?_
    refine then_n ?_
    exact ⟨_, rfl, ⟨(decide (x1 ≥ (z0.book_.l_.length : Int))), _, _, rfl, h, hI, al, ac, ag, ah, ab, trivial⟩, ⟨rfl, rfl, trivial⟩⟩
 ·
  simp only [e_, Nat.reduceAdd, Nat.reduceBEq] at b_
  subst b_
  clear h
  clear ab
  clear ag
  clear ah
  rintro _ c5 ⟨ao, c6, c7, rfl, bo, bp, al, ac, ag, ah, ab, -⟩
  replace hI := bp
  clear bp
  have h := bg ao bo
  clear bg bo
  replace aa := aa.up ac
  replace ad := ad.up ac
  replace ae := ae.up ac
  replace af := af.up ac
  refine W_cond rfl (fun bj => ?_) (fun bj => ?_)
  ·
   replace h := h.1 bj
   refine W_seq_k fun K8 k8 => ?_
   refine W_region [4, 5, 6] rfl (Ops_step (R_assign rfl) rfl rfl (Ops_step (R_assign rfl) rfl rfl (Ops_step (R_assign rfl) rfl rfl ?_)))
   refine Ops_nil ?_
   refine then_n (k8 _ _ ?_)
   clear k8 K8
   refine W_ret ?_
   refine then_ret ?_
   clear k2 K2
   refine ⟨_, ⟨_, _, rfl, rfl, ⟨_, _, rfl, rfl, ⟨_, _, rfl, rfl, rfl⟩⟩⟩, ?_⟩
   exact ⟨0, none, 0, [], false, _, _, rfl, hI, OwnS.nil, h⟩
  ·
   replace h := h.2 bj
   refine W_skip ?_
   refine then_n (k2 _ _ ?_)
   clear k2 K2
   refine W_seq_k fun K9 k9 => ?_
   refine W_drawF [23, 24, 25, 26, 27, 28, 29, 30, 31, 32, 33, 34, 35, 36, 37, 38, 39, 40, 41, 4, 5, 6] [(0, true), (1, true), (2, true), (3, true), (4, true), (5, true), (6, true), (7, true), (8, true), (9, true), (10, true), (11, true), (12, true), (13, true), (14, true), (15, true), (16, true), (17, true), (18, false), (19, true), (20, true), (21, true)] TJtE.hm rfl (by kernel_rfl) fun ce cq ap am => ?_
   replace hI := hI.fr0 am
   replace ag := ag.fr0 am
   replace ah := ah.fr0 am
   replace ab := ab.fr0 am
   clear am
   refine HSp (R_move rfl) rfl rfl (HSp (R_nilCheck rfl) rfl rfl (HSp (R_fieldAddr fo46_0 rfl) rfl rfl (HSp (R_fieldAddr fo44_0 rfl) rfl rfl ?_)))
   refine HS_loadB (v := .slice aj z0.book_.l_.length ak) ag41 rfl ab.blk rfl rfl rfl ?_
   refine HSp (R_move rfl) rfl rfl ?_
   refine ex_ h fun bq aq h => ?_
   have br := (Sl.atN (n := 2) rfl (by decide) aa aq).1
   refine Exists.elim (Sl.atN (n := 2) rfl (by decide) aa aq).2 fun cr a6 => ?_
   have bt := a6.1
   have ar := a6.2
   clear a6
   refine HSp (R_indexSl Try.underlying41 sz85 rfl rfl aq.1 aq.lt br) rfl rfl ?_
   obtain ⟨ci, cj, rfl, ⟨cf, cg⟩⟩ := bt
   refine HSp (R_fieldAddr' fo85_0 rfl) rfl rfl ?_
   refine HS_load (v := vi bq.label_) ag3 rfl (hI.st _ _ (ar 0 _ rfl)) rfl rfl ?_
   refine HSp (R_move rfl) rfl rfl (HSp (R_nilCheck rfl) rfl rfl (HSp (R_fieldAddr fo46_0 rfl) rfl rfl (HSp (R_fieldAddr fo44_0 rfl) rfl rfl ?_)))
   refine HS_loadB (v := .slice aj z0.book_.l_.length ak) ag41 rfl ab.blk rfl rfl rfl ?_
   refine HSp (R_move rfl) rfl rfl ?_
   refine ex_ h fun bu au h => ?_
   have bv := (Sl.atN (n := 2) rfl (by decide) aa au).1
   refine Exists.elim (Sl.atN (n := 2) rfl (by decide) aa au).2 fun ct a7 => ?_
   have bw := a7.1
   have a8 := a7.2
   clear a7
   refine HSp (R_indexSl Try.underlying41 sz85 rfl rfl au.1 au.lt bv) rfl rfl ?_
   obtain ⟨bx, bz, rfl, ⟨bl, bm⟩⟩ := bw
   refine HSp (R_fieldAddr' fo85_1 rfl) rfl rfl ?_
   refine HS_load (v := .slice bx bu.data_.length bz) ag29 rfl (hI.st _ _ (a8 1 _ rfl)) rfl rfl ?_
   refine HS_call [8, 4] _ rfl (by rw [ap]; kernel_rfl) (C_func bd32 rfl) rfl rfl ?_
   refine (slices_Clone_sl_byte_byte_ok (x0 := bu.data_) hI.st (hg.up hI.le) bl bm h).mono ?_
   rintro _ cu ⟨b4, b5, b6, cv, cw, rfl, ba, an, h⟩
   refine Exists.elim (hI.call ba (by simp)) fun ck a9 => ?_
   have b7 := hI.size
   replace hI := a9.1
   have ai := a9.2.1
   have b8 := a9.2.2
   clear a9
   replace aa := aa.up ai.hh
   replace ad := ad.up ai.hh
   replace ae := ae.up ai.hh
   replace af := af.up ai.hh
   replace ag := ag.up ai.hh ai (by simp)
   replace ah := ah.up ai (by simp)
   replace ab := ab.up ai (by simp)
   replace ar := fun j_ v_ k_ => ai.hh _ _ (ar j_ v_ k_)
   replace a8 := fun j_ v_ k_ => ai.hh _ _ (a8 j_ v_ k_)
   replace an := OwnS.backS an b7 (Le.refl _)
   clear ba ai b8
   refine ⟨_, rfl, ⟨(hI.st _ _ (ar 0 _ rfl)), (ab.blk.at_ rfl), trivial⟩, ?_⟩
   refine HSp (R_assign rfl) rfl rfl (HSp (R_assign rfl) rfl rfl (HSp (R_assign rfl) rfl rfl ?_))
   refine HS_nil ?_
   clear ap
   refine then_n (k9 _ _ ?_)
   clear k9 K9
   refine W_keepB [4, 5, 6] fun B_ b_ => ?_
   simp only [e_, Nat.reduceAdd, Nat.reduceBEq] at b_
   subst b_
   refine W_ret ?_
   refine ⟨_, ⟨_, _, rfl, rfl, ⟨_, _, rfl, rfl, ⟨_, _, rfl, rfl, rfl⟩⟩⟩, ?_⟩
   exact ⟨bq.label_, b4, b5, b6, true, _, _, rfl, hI, (an.hl (Le.no _)), h⟩

theorem journal_Journal_Len_ok {G : Gh} {w : World} (hS : St G w) (hg : GL G) {d0 : Nat} {z0 : journal_Journal} {ae : Option Addr} {af : Nat} {d1 : Nat} {z1 : List (Int × Int)} (ah : MTok G G w d1 z1) {d2 : Nat} {z2 : disk_Disk} {ak : Option Addr} {al : Nat} {am : Option Addr} {an : Nat} {ao : Option Addr} {ap : Nat} (ai : Tok G w d2 53 ([.slice ak z2.files_.e0_.length al, .slice am z2.files_.e1_.length an, .slice ao z2.files_.e2_.length ap, vi z2.room_, .bool z2.off_, .bool z2.armed_, vi z2.left_])) (aq : z2.files_.e0_.length ≤ al) (aa : Sl G ak z2.files_.e0_) (ar : z2.files_.e1_.length ≤ an) (ab : Sl G am z2.files_.e1_) (au : z2.files_.e2_.length ≤ ap) (ac : Sl G ao z2.files_.e2_) (ag : Tok G w d0 46 ([.slice ae z0.book_.l_.length af, .map (some d1), .pointer (some ⟨d2, 0, none⟩), vi z0.gen_, vi z0.place_])) (av : z0.book_.l_.length ≤ af) (ad : Sl G ae z0.book_.l_) {Q : Int → Prop} (h : journal_Journal_Len z0 z1 z2 Q) : Calls Try.prog 19 #[.pointer (some ⟨d0, 0, none⟩)] w fun e w2 => ∃ (r0 : Int) (L H : Gh), e = .returned (vi r0) ∧ Inv [] G w L H w2 ∧ Q r0 := by
 unfold journal_Journal_Len at h
 have hI := Inv.start (M := []) hS
 refine calls_W 11 Try.func19 rfl Try.ntmps19 rfl [.tmp 2] rfl ?_
 have az := ag.blk.lt
 have a4 := ah.lt
 have a5 := ai.blk.lt
 refine W_seq_k fun K1 k1 => ?_
 refine W_region [2] rfl (Ops_step (R_assign rfl) rfl rfl ?_)
 refine Ops_nil ?_
 refine then_n (k1 _ _ ?_)
 clear k1 K1
 refine W_seq_k fun K2 k2 => ?_
 refine W_seq_k fun K3 k3 => ?_
 refine W_region [3, 4] rfl (Ops_step (R_move rfl) rfl rfl ?_)
 refine Ops_call (C_func bd39 rfl) rfl rfl ?_
 refine (journal_Journal_dead_ok (z0 := z0) (z1 := z1) (z2 := z2) hI.st (hg.up hI.le) ah ai aq aa ar ab au ac ag av ad h).mono ?_
 rintro _ ba ⟨a7, bc, bd, rfl, ax, h⟩
 refine Exists.elim (hI.call ax (by simp)) fun a8 ay => ?_
 have a9 := hI.size
 replace hI := ay.1
 have aj := ay.2.1
 have a6 := ay.2.2
 clear ay
 replace ad := ad.up aj.hh
 replace ah := ah.up aj.hh aj (by simp)
 replace aa := aa.up aj.hh
 replace ab := ab.up aj.hh
 replace ac := ac.up aj.hh
 replace ai := ai.up aj (by simp)
 replace ag := ag.up aj (by simp)
 clear ax aj a6
 refine ⟨_, rfl, ?_⟩
 refine Ops_nil ?_
 refine then_n (k3 _ _ ?_)
 clear k3 K3
 refine W_cond rfl (fun aw => ?_) (fun aw => ?_)
 ·
  replace h := h.1 aw
  refine W_seq_k fun K6 k6 => ?_
  refine W_region [2] rfl (Ops_step (R_assign rfl) rfl rfl ?_)
  refine Ops_nil ?_
  refine then_n (k6 _ _ ?_)
  clear k6 K6
  refine W_ret ?_
  refine then_ret ?_
  clear k2 K2
  refine ⟨_, ⟨_, _, rfl, rfl, rfl⟩, ?_⟩
  exact ⟨0, _, _, rfl, hI, h⟩
 ·
  replace h := h.2 aw
  refine W_skip ?_
  refine then_n (k2 _ _ ?_)
  clear k2 K2
  refine W_seq_k fun K7 k7 => ?_
  refine W_region [5, 6, 7, 8, 9, 10, 2] rfl (Ops_step (R_move rfl) rfl rfl (Ops_step (R_nilCheck rfl) rfl rfl (Ops_step (R_fieldAddr fo46_0 rfl) rfl rfl (Ops_step (R_fieldAddr fo44_0 rfl) rfl rfl ?_))))
  refine Ops_step (R_loadB (v := .slice ae z0.book_.l_.length af) ag41 rfl ag.blk rfl) rfl rfl ?_
  refine Ops_step (R_len Try.underlying41 rfl rfl) rfl rfl (Ops_step (R_assign rfl) rfl rfl ?_)
  refine Ops_nil ?_
  refine then_n (k7 _ _ ?_)
  clear k7 K7
  refine W_keepB [2] fun B_ b_ => ?_
  simp only [e_, Nat.reduceAdd, Nat.reduceBEq] at b_
  subst b_
  refine W_ret ?_
  refine ⟨_, ⟨_, _, rfl, rfl, rfl⟩, ?_⟩
  exact ⟨(z0.book_.l_.length : Int), _, _, rfl, hI, h⟩

theorem journal_Journal_Bytes_ok {G : Gh} {w : World} (hS : St G w) (hg : GL G) {d0 : Nat} {z0 : journal_Journal} {ai : Option Addr} {aj : Nat} {d1 : Nat} {z1 : List (Int × Int)} (ae : MTok G G w d1 z1) {d2 : Nat} {z2 : disk_Disk} {ak : Option Addr} {al : Nat} {am : Option Addr} {an : Nat} {ao : Option Addr} {ap : Nat} (ag : Tok G w d2 53 ([.slice ak z2.files_.e0_.length al, .slice am z2.files_.e1_.length an, .slice ao z2.files_.e2_.length ap, vi z2.room_, .bool z2.off_, .bool z2.armed_, vi z2.left_])) (aq : z2.files_.e0_.length ≤ al) (aa : Sl G ak z2.files_.e0_) (ar : z2.files_.e1_.length ≤ an) (ab : Sl G am z2.files_.e1_) (au : z2.files_.e2_.length ≤ ap) (ac : Sl G ao z2.files_.e2_) (af : Tok G w d0 46 ([.slice ai z0.book_.l_.length aj, .map (some d1), .pointer (some ⟨d2, 0, none⟩), vi z0.gen_, vi z0.place_])) (av : z0.book_.l_.length ≤ aj) (ad : Sl G ai z0.book_.l_) {x1 : Int} {Q : Int → Prop} (h : journal_Journal_Bytes z0 z1 z2 x1 Q) : Calls Try.prog 17 #[.pointer (some ⟨d0, 0, none⟩), vi x1] w fun e w2 => ∃ (r0 : Int) (L H : Gh), e = .returned (vi r0) ∧ Inv [] G w L H w2 ∧ Q r0 := by
 unfold journal_Journal_Bytes at h
 have hI := Inv.start (M := []) hS
 refine calls_W 14 Try.func17 rfl Try.ntmps17 rfl [.tmp 4] rfl ?_
 have az := af.blk.lt
 have a4 := ae.lt
 have a5 := ag.blk.lt
 refine W_seq_k fun K1 k1 => ?_
 refine W_region [4] rfl (Ops_step (R_assign rfl) rfl rfl ?_)
 refine Ops_nil ?_
 refine then_n (k1 _ _ ?_)
 clear k1 K1
 refine W_seq_k fun K2 k2 => ?_
 refine W_seq_k fun K3 k3 => ?_
 refine W_region [5, 6] rfl (Ops_step (R_move rfl) rfl rfl ?_)
 refine Ops_call (C_func bd39 rfl) rfl rfl ?_
 refine (journal_Journal_dead_ok (z0 := z0) (z1 := z1) (z2 := z2) hI.st (hg.up hI.le) ae ag aq aa ar ab au ac af av ad h).mono ?_
 rintro _ ba ⟨a7, bc, bd, rfl, ax, h⟩
 refine Exists.elim (hI.call ax (by simp)) fun a8 ay => ?_
 have a9 := hI.size
 replace hI := ay.1
 have ah := ay.2.1
 have a6 := ay.2.2
 clear ay
 replace ad := ad.up ah.hh
 replace ae := ae.up ah.hh ah (by simp)
 replace aa := aa.up ah.hh
 replace ab := ab.up ah.hh
 replace ac := ac.up ah.hh
 replace ag := ag.up ah (by simp)
 replace af := af.up ah (by simp)
 clear ax ah a6
 refine ⟨_, rfl, ?_⟩
 refine Ops_nil ?_
 refine then_n (k3 _ _ ?_)
 clear k3 K3
 refine W_cond rfl (fun aw => ?_) (fun aw => ?_)
 ·
  replace h := h.1 aw
  refine W_seq_k fun K6 k6 => ?_
  refine W_region [4] rfl (Ops_step (R_assign rfl) rfl rfl ?_)
  refine Ops_nil ?_
  refine then_n (k6 _ _ ?_)
  clear k6 K6
  refine W_ret ?_
  refine then_ret ?_
  clear k2 K2
  refine ⟨_, ⟨_, _, rfl, rfl, rfl⟩, ?_⟩
  exact ⟨0, _, _, rfl, hI, h⟩
 ·
  replace h := h.2 aw
  refine W_skip ?_
  refine then_n (k2 _ _ ?_)
  clear k2 K2
  refine W_seq_k fun K7 k7 => ?_
  refine W_region [7, 8, 9, 10, 11, 12, 13, 4] rfl (Ops_step (R_move rfl) rfl rfl (Ops_step (R_nilCheck rfl) rfl rfl (Ops_step (R_fieldAddr fo46_0 rfl) rfl rfl (Ops_step (R_fieldAddr fo44_1 rfl) rfl rfl ?_))))
  refine Ops_step (R_loadB (v := .map (some d1)) ag42 rfl af.blk rfl) rfl rfl ?_
  refine Ops_step (R_move rfl) rfl rfl ?_
  refine Ops_step (R_lookup (z0 := (0 : Int)) Try.underlying42 Try.underlying3 zv3 rfl rfl ae) rfl rfl ?_
  refine Ops_step (R_assign rfl) rfl rfl ?_
  refine Ops_nil ?_
  refine then_n (k7 _ _ ?_)
  clear k7 K7
  refine W_keepB [4] fun B_ b_ => ?_
  simp only [e_, Nat.reduceAdd, Nat.reduceBEq] at b_
  subst b_
  refine W_ret ?_
  refine ⟨_, ⟨_, _, rfl, rfl, rfl⟩, ?_⟩
  exact ⟨((mget z1 x1).getD 0), _, _, rfl, hI, h⟩

theorem sealskinlaw06_awake_ok {G : Gh} {w : World} (hS : St G w) (hg : GL G)  {Q : Bool → Prop} (h : sealskinlaw06_awake  Q) : Calls Try.prog 12 #[] w fun e w2 => ∃ (r0 : Bool) (L H : Gh), e = .returned (.bool r0) ∧ Inv [] G w L H w2 ∧ Q r0 := by
 unfold sealskinlaw06_awake at h
 have hI := Inv.start (M := []) hS
 refine calls_W 84 Try.func12 rfl Try.ntmps12 rfl [.tmp 0] rfl ?_
 refine W_seq_k fun K1 k1 => ?_
 refine W_region [0] rfl (Ops_step (R_assign rfl) rfl rfl ?_)
 refine Ops_nil ?_
 refine then_n (k1 _ _ ?_)
 clear k1 K1
 refine W_seq_k fun K2 k2 => ?_
 refine W_region [10, 9, 11, 12, 13, 1, 2, 3] rfl ?_
 refine Ops_call (C_func bd13 rfl) rfl rfl ?_
 refine (sealskinlaw06_begun_ok  hI.st (hg.up hI.le)  h).mono ?_
 rintro _ oq ⟨lv, jp, gk, ft, fu, fv, fw, fx, fy, lw, jq, lj, lk, nd, jr, ot, lx, rfl, js, ai, bh, cx, ay, cy, az, cz, a4, a5, bo, d5, bi, a6, bp, h⟩
 have ix := ai
 replace ai := Nat.le_trans hI.size ai
 have iy := a5
 replace a5 := Nat.le_trans hI.size a5
 have iz := a6
 replace a6 := Nat.le_trans hI.size a6
 refine Exists.elim (hI.call js (by simp)) fun ia lm => ?_
 have nf := hI.size
 replace hI := lm.1
 have ng := lm.2.1
 have ly := lm.2.2
 clear lm
 clear js ng ly
 refine ⟨_, rfl, ?_⟩
 refine Ops_step (R_move rfl) rfl rfl ?_
 refine Ops_step (R_extract (v := .pointer (some ⟨jp, 0, none⟩)) rfl rfl) rfl rfl ?_
 refine Ops_step (R_extract (v := .pointer (some ⟨lw, 0, none⟩)) rfl rfl) rfl rfl ?_
 refine Ops_step (R_extract (v := .bool lv) rfl rfl) rfl rfl ?_
 refine Ops_step (R_assign rfl) rfl rfl (Ops_step (R_assign rfl) rfl rfl (Ops_step (R_assign rfl) rfl rfl ?_))
 refine Ops_nil ?_
 refine then_n (k2 _ _ ?_)
 clear k2 K2
 refine W_keepB [1, 2, 3] fun B_ b_ => ?_
 simp only [e_, Nat.reduceAdd, Nat.reduceBEq] at b_
 subst b_
 refine W_seq_k fun K5 k5 => ?_
 refine ex_ h fun nh ib h => ?_
 refine W_seq_join [1] [41] (fun vals_ w2 => ∃ (dg : Bool) (ae : disk_Disk) (bv : Option Addr) (bw : Nat) (bx : Option Addr) (bz : Nat) (b4 : Option Addr) (b5 : Nat) (L H : Gh), vals_ = [.bool dg] ∧ nh dg ae ∧ Inv [] G w L H w2 ∧ Le ia L ∧ Le lx H ∧ Tok H w2 jp 53 ([.slice bv ae.files_.e0_.length bw, .slice bx ae.files_.e1_.length bz, .slice b4 ae.files_.e2_.length b5, vi ae.room_, .bool ae.off_, .bool ae.armed_, vi ae.left_]) ∧ ae.files_.e0_.length ≤ bw ∧ Sl H bv ae.files_.e0_ ∧ ae.files_.e1_.length ≤ bz ∧ Sl H bx ae.files_.e1_ ∧ ae.files_.e2_.length ≤ b5 ∧ Sl H b4 ae.files_.e2_ ∧ True) (fun B_ b_ => ?_) (fun B_ b_ => ?_)
 ·
  simp only [e_, Nat.reduceAdd, Nat.reduceBEq] at b_
  subst b_
  clear ib
  have aj := Le.refl ia
  have ak := Le.refl lx
  refine W_region [14, 15, 16, 17, 18, 19, 20, 21, 22, 23, 24, 25, 26, 27, 28, 29, 30, 31, 32, 33, 34, 35, 36, 37, 38, 39, 40, 41] rfl (Ops_step (R_move rfl) rfl rfl (Ops_step (R_not rfl) rfl rfl (Ops_step (R_move rfl) rfl rfl ?_)))
  refine Ops_splitB 16 rfl (fun ic => ?_) (fun ic => ?_)
  ·
   replace h := h.1 ic
   refine Ops_pass rfl rfl (Ops_pass rfl rfl (Ops_pass rfl rfl (Ops_pass rfl rfl (Ops_pass rfl rfl ?_))))
   refine Ops_step (R_pick_true rfl rfl) rfl rfl (Ops_step (R_move rfl) rfl rfl (Ops_pass rfl rfl (Ops_pass rfl rfl (Ops_pass rfl rfl ?_))))
   refine Ops_pass rfl rfl (Ops_pass rfl rfl (Ops_step (R_pick_true rfl rfl) rfl rfl (Ops_step (R_move rfl) rfl rfl (Ops_pass rfl rfl ?_))))
   refine Ops_pass rfl rfl (Ops_pass rfl rfl (Ops_step (R_pick_true rfl rfl) rfl rfl (Ops_step (R_move rfl) rfl rfl (Ops_pass rfl rfl ?_))))
   refine Ops_pass rfl rfl (Ops_pass rfl rfl (Ops_pass rfl rfl (Ops_pass rfl rfl (Ops_step (R_pick_true rfl rfl) rfl rfl ?_))))
   refine Ops_nil ?_
   refine then_n ?_
   exact ⟨_, rfl, ⟨true, gk, ft, fu, fv, fw, fx, fy, _, _, rfl, h, hI, aj, ak, bh, cx, ay, cy, az, cz, a4, trivial⟩, ⟨rfl, trivial⟩⟩
  ·
   replace h := h.2 ic
   refine Ops_step (R_move rfl) rfl rfl ?_
   refine Ops_to (R_buildSlice el29 zr5 (by decide) (by decide) rfl rfl) rfl rfl ?_
   rintro _ ou ⟨ni, rfl, lz, jt, d6⟩
   have c9 : OwnS w.heap.size 5 Gh.no lx _ (some ⟨ni, 0, none⟩) 1 ([(97 : UInt8)] : List UInt8) := OwnS.ofBlk hI.st lz jt (all2_sc' _) rfl (by have := hI.size; omega) (by show 1 ≤ maxLen; decide)
   replace hI := hI.fr0 d6
   replace bh := bh.fr0 d6
   replace bo := bo.fr0 d6
   replace bp := bp.fr0 d6
   clear d6 jt
   refine Ops_to (X_convB (xs := ([(97 : UInt8)] : List UInt8)) Try.underlying29 Try.underlying5 rfl rfl (by show 0 < 1; decide) c9) rfl rfl ?_
   rintro _ ov ⟨rfl, ju, jv⟩
   refine Exists.elim (Inv.ownRd c9 hI jv ju) fun ow i0 => Exists.elim i0 fun ox i0 => ?_
   replace hI := i0.1
   have d7 := i0.2.1
   have l4 := i0.2.2
   have l5 := c9.cap
   replace bh := bh.up d7 (bh.sep c9 (by decide))
   replace ay := ay.up d7.hh
   replace az := az.up d7.hh
   replace a4 := a4.up d7.hh
   replace bo := bo.up d7 (bo.sep c9 (by decide))
   replace bi := bi.up d7.hh
   replace bp := bp.up d7.hh d7 (bp.neO c9)
   replace aj := aj.trans d7.ll
   replace ak := ak.trans d7.hh
   clear i0 d7 ju jv c9
   refine Ops_call (C_func bd15 rfl) rfl rfl ?_
   refine (journal_Journal_Put_ok (x1 := 0) (x2 := ([(97 : UInt8)] : List UInt8)) (z0 := jq) (z1 := jr) (z2 := gk) hI.st (hg.up hI.le) bp bh cx ay cy az cz a4 bo d5 bi l5 (l4.up hI.sub) h).mono ?_
   rintro _ nj ⟨mj, ie, jw, jx, ig, d8, d9, ea, eb, ec, ee, eg, nk, l6, rfl, gl, a8, dk, a7, a9, aw, ck, ao, cl, ap, cm, aq, h⟩
   refine Exists.elim (hI.call gl (memG a5 (memG a6 (memG ai memN)))) fun ml f0 => ?_
   have mm := hI.size
   replace hI := f0.1
   have da := f0.2.1
   have jy := f0.2.2
   clear f0
   replace ay := ay.up da.hh
   replace az := az.up da.hh
   replace a4 := a4.up da.hh
   replace bi := bi.up da.hh
   replace aj := aj.trans da.ll
   replace ak := ak.trans da.hh
   clear bo
   clear bp
   clear bh
   clear gl da jy
   refine ⟨_, rfl, ?_⟩
   refine Ops_step (R_neq rfl rfl) rfl rfl (Ops_step (R_pick_false rfl rfl) rfl rfl (Ops_step (R_move rfl) rfl rfl ?_))
   refine Ops_split 23 rfl (fun eh => ?_) (fun eh => ?_)
   ·
    replace h := h.1 eh
    refine Ops_pass rfl rfl (Ops_pass rfl rfl (Ops_pass rfl rfl (Ops_pass rfl rfl (Ops_pass rfl rfl ?_))))
    refine Ops_step (R_pick_true rfl rfl) rfl rfl (Ops_step (R_move rfl) rfl rfl (Ops_pass rfl rfl (Ops_pass rfl rfl (Ops_pass rfl rfl ?_))))
    refine Ops_step (R_pick_true rfl rfl) rfl rfl (Ops_step (R_move rfl) rfl rfl (Ops_pass rfl rfl (Ops_pass rfl rfl (Ops_pass rfl rfl ?_))))
    refine Ops_pass rfl rfl (Ops_pass rfl rfl (Ops_step (R_pick_true rfl rfl) rfl rfl ?_))
    refine Ops_nil ?_
    refine then_n ?_
    exact ⟨_, rfl, ⟨true, d8, d9, ea, eb, ec, ee, eg, _, _, rfl, h, hI, aj, ak, aw, ck, ao, cl, ap, cm, aq, trivial⟩, ⟨rfl, trivial⟩⟩
   ·
    replace h := h.2 eh
    refine Ops_step (R_move rfl) rfl rfl ?_
    refine Ops_to (R_buildSlice el29 zr5 (by decide) (by decide) rfl rfl) rfl rfl ?_
    rintro _ nl ⟨l7, rfl, jz, gm, c5⟩
    have cc : OwnS w.heap.size 5 Gh.no l6 _ (some ⟨l7, 0, none⟩) 2 ([(98 : UInt8), (99 : UInt8)] : List UInt8) := OwnS.ofBlk hI.st jz gm (all2_sc' _) rfl (by have := hI.size; omega) (by show 2 ≤ maxLen; decide)
    replace hI := hI.fr0 c5
    replace a8 := a8.fr0 c5
    replace a9 := a9.fr0 c5
    replace aw := aw.fr0 c5
    clear c5 gm
    refine Ops_to (X_convB (xs := ([(98 : UInt8), (99 : UInt8)] : List UInt8)) Try.underlying29 Try.underlying5 rfl rfl (by show 0 < 2; decide) cc) rfl rfl ?_
    rintro _ nm ⟨rfl, gn, go⟩
    refine Exists.elim (Inv.ownRd cc hI go gn) fun nn dl => Exists.elim dl fun np dl => ?_
    replace hI := dl.1
    have cd := dl.2.1
    have j0 := dl.2.2
    have j1 := cc.cap
    replace aj := aj.trans cd.ll
    replace ak := ak.trans cd.hh
    replace a8 := a8.up cd (a8.sep cc (by decide))
    replace a7 := a7.up cd.hh
    replace a9 := a9.up cd.hh cd (a9.neO cc)
    replace aw := aw.up cd (aw.sep cc (by decide))
    replace ao := ao.up cd.hh
    replace ap := ap.up cd.hh
    replace aq := aq.up cd.hh
    clear dl cd gn go cc
    refine Ops_call (C_func bd15 rfl) rfl rfl ?_
    refine (journal_Journal_Put_ok (x1 := 3) (x2 := ([(98 : UInt8), (99 : UInt8)] : List UInt8)) (z0 := ie) (z1 := ig) (z2 := d8) hI.st (hg.up hI.le) a9 aw ck ao cl ap cm aq a8 dk a7 j1 (j0.up hI.sub) h).mono ?_
    rintro _ nq ⟨mn, ii, j2, j3, ij, ei, ej, ek, en, eo, ep, eq, nr, ns, rfl, gp, am, dm, al, an, bu, co, bl, cp, bm, cq, bn, h⟩
    refine Exists.elim (hI.call gp (memG a5 (memG a6 (memG ai memN)))) fun mo f8 => ?_
    have mp := hI.size
    replace hI := f8.1
    have db := f8.2.1
    have j4 := f8.2.2
    clear f8
    replace aj := aj.trans db.ll
    replace ak := ak.trans db.hh
    replace a7 := a7.up db.hh
    replace ao := ao.up db.hh
    replace ap := ap.up db.hh
    replace aq := aq.up db.hh
    clear a8
    clear a9
    clear aw
    clear gp db j4
    refine ⟨_, rfl, ?_⟩
    refine Ops_step (R_neq rfl rfl) rfl rfl (Ops_step (R_pick_false rfl rfl) rfl rfl (Ops_step (R_move rfl) rfl rfl ?_))
    refine Ops_split 30 rfl (fun et => ?_) (fun et => ?_)
    ·
     replace h := h.1 et
     refine Ops_pass rfl rfl (Ops_pass rfl rfl (Ops_pass rfl rfl (Ops_step (R_pick_true rfl rfl) rfl rfl (Ops_step (R_move rfl) rfl rfl ?_))))
     refine Ops_pass rfl rfl (Ops_pass rfl rfl (Ops_pass rfl rfl (Ops_pass rfl rfl (Ops_pass rfl rfl ?_))))
     refine Ops_step (R_pick_true rfl rfl) rfl rfl ?_
     refine Ops_nil ?_
     refine then_n ?_
     exact ⟨_, rfl, ⟨true, ei, ej, ek, en, eo, ep, eq, _, _, rfl, h, hI, aj, ak, bu, co, bl, cp, bm, cq, bn, trivial⟩, ⟨rfl, trivial⟩⟩
    ·
     replace h := h.2 et
     refine Ops_step (R_move rfl) rfl rfl ?_
     refine Ops_call (C_func bd21 rfl) rfl rfl ?_
     refine (disk_Disk_Arm_ok (x1 := 5) (z0 := ei) hI.st (hg.up hI.le) bu co bl cp bm cq bn h).mono ?_
     rintro _ nt ⟨mq, eu, ew, ex, ey, ez, e5, e8, nu, l8, rfl, gq, ax, cr, ar, ct, au, cu, av, h⟩
     refine Exists.elim (hI.call gq (new1 ai)) fun mr f9 => ?_
     have ms := hI.size
     replace hI := f9.1
     have cg := f9.2.1
     have j5 := f9.2.2
     clear f9
     replace aj := aj.trans cg.ll
     replace ak := ak.trans cg.hh
     replace am := am.up cg (am.apart bu (by decide))
     replace al := al.up cg.hh
     replace an := an.up cg.hh cg (an.neT bu)
     replace bl := bl.up cg.hh
     replace bm := bm.up cg.hh
     replace bn := bn.up cg.hh
     clear bu
     clear gq cg j5
     refine ⟨_, rfl, ?_⟩
     refine Ops_step (R_neq rfl rfl) rfl rfl (Ops_step (R_pick_false rfl rfl) rfl rfl (Ops_step (R_move rfl) rfl rfl ?_))
     refine Ops_split 35 rfl (fun e9 => ?_) (fun e9 => ?_)
     ·
      replace h := h.1 e9
      refine Ops_pass rfl rfl (Ops_pass rfl rfl (Ops_pass rfl rfl (Ops_pass rfl rfl (Ops_pass rfl rfl ?_))))
      refine Ops_step (R_pick_true rfl rfl) rfl rfl ?_
      refine Ops_nil ?_
      refine then_n ?_
      exact ⟨_, rfl, ⟨true, eu, ew, ex, ey, ez, e5, e8, _, _, rfl, h, hI, aj, ak, ax, cr, ar, ct, au, cu, av, trivial⟩, ⟨rfl, trivial⟩⟩
     ·
      replace h := h.2 e9
      refine Ops_step (R_move rfl) rfl rfl ?_
      refine Ops_to (R_buildSlice el29 zr5 (by decide) (by decide) rfl rfl) rfl rfl ?_
      rintro _ nv ⟨l9, rfl, j6, gr, c6⟩
      have ce : OwnS w.heap.size 5 Gh.no l8 _ (some ⟨l9, 0, none⟩) 1 ([(100 : UInt8)] : List UInt8) := OwnS.ofBlk hI.st j6 gr (all2_sc' _) rfl (by have := hI.size; omega) (by show 1 ≤ maxLen; decide)
      replace hI := hI.fr0 c6
      replace am := am.fr0 c6
      replace an := an.fr0 c6
      replace ax := ax.fr0 c6
      clear c6 gr
      refine Ops_to (X_convB (xs := ([(100 : UInt8)] : List UInt8)) Try.underlying29 Try.underlying5 rfl rfl (by show 0 < 1; decide) ce) rfl rfl ?_
      rintro _ nw ⟨rfl, gt, gu⟩
      refine Exists.elim (Inv.ownRd ce hI gu gt) fun nx dn => Exists.elim dn fun ny dn => ?_
      replace hI := dn.1
      have cf := dn.2.1
      have j7 := dn.2.2
      have j8 := ce.cap
      replace aj := aj.trans cf.ll
      replace ak := ak.trans cf.hh
      replace am := am.up cf (am.sep ce (by decide))
      replace al := al.up cf.hh
      replace an := an.up cf.hh cf (an.neO ce)
      replace ax := ax.up cf (ax.sep ce (by decide))
      replace ar := ar.up cf.hh
      replace au := au.up cf.hh
      replace av := av.up cf.hh
      clear dn cf gt gu ce
      refine Ops_call (C_func bd15 rfl) rfl rfl ?_
      refine (journal_Journal_Put_ok (x1 := 0) (x2 := ([(100 : UInt8)] : List UInt8)) (z0 := ii) (z1 := ij) (z2 := eu) hI.st (hg.up hI.le) an ax cr ar ct au cu av am dm al j8 (j7.up hI.sub) h).mono ?_
      rintro _ nz ⟨j9, ma, ka, kb, mb, ik, fa, fb, fc, fd, fe, ff, n0, n2, rfl, gv, ln, i1, i2, lp, ga, dp, dq, dr, dt, du, dv, h⟩
      refine Exists.elim (hI.call gv (memG a5 (memG a6 (memG ai memN)))) fun mt gb => ?_
      have mu := hI.size
      replace hI := gb.1
      have dc := gb.2.1
      have kc := gb.2.2
      clear gb
      replace aj := aj.trans dc.ll
      replace ak := ak.trans dc.hh
      replace al := al.up dc.hh
      replace ar := ar.up dc.hh
      replace au := au.up dc.hh
      replace av := av.up dc.hh
      clear am
      clear an
      clear ax
      clear gv dc kc
      refine ⟨_, rfl, ?_⟩
      refine Ops_step (R_neq rfl rfl) rfl rfl (Ops_step (R_pick_false rfl rfl) rfl rfl ?_)
      refine Ops_nil ?_
      refine then_n ?_
      exact ⟨_, rfl, ⟨(decide (j9 ≠ 50)), ik, fa, fb, fc, fd, fe, ff, _, _, rfl, h, hI, aj, ak, ga, dp, dq, dr, dt, du, dv, trivial⟩, ⟨rfl, trivial⟩⟩
 ·
  simp only [e_, Nat.reduceAdd, Nat.reduceBEq] at b_
  subst b_
  clear h
  rintro _ oy ⟨dg, ae, bv, bw, bx, bz, b4, b5, oz, o4, rfl, ke, kf, aj, ak, c7, dd, bq, de, br, df, bt, -⟩
  replace hI := kf
  clear kf
  have h := ib dg ae ke
  clear ib ke
  refine W_cond rfl (fun fg => ?_) (fun fg => ?_)
  ·
   replace h := h.1 fg
   refine W_seq_k fun K22 k22 => ?_
   refine W_region [0] rfl (Ops_step (R_assign rfl) rfl rfl ?_)
   refine Ops_nil ?_
   refine then_n (k22 _ _ ?_)
   clear k22 K22
   refine W_ret ?_
   refine then_ret ?_
   clear k5 K5
   refine ⟨_, ⟨_, _, rfl, rfl, rfl⟩, ?_⟩
   exact ⟨false, _, _, rfl, hI, h⟩
  ·
   replace h := h.2 fg
   refine W_skip ?_
   refine then_n (k5 _ _ ?_)
   clear k5 K5
   refine W_seq_k fun K23 k23 => ?_
   refine W_region [42, 43] rfl (Ops_step (R_move rfl) rfl rfl ?_)
   refine Ops_call (C_func bd22 rfl) rfl rfl ?_
   refine (disk_Disk_Start_ok (z0 := ae) hI.st (hg.up hI.le) c7 dd bq de br df bt h).mono ?_
   rintro _ n3 ⟨mv, il, kg, kh, ki, kj, kk, kl, n4, n5, rfl, gw, dh, dw, b6, dx, b7, dy, b8, h⟩
   refine Exists.elim (hI.call gw (new1 ai)) fun mw gc => ?_
   have my := hI.size
   replace hI := gc.1
   have gf := gc.2.1
   have km := gc.2.2
   clear gc
   replace bq := bq.up gf.hh
   replace br := br.up gf.hh
   replace bt := bt.up gf.hh
   clear c7
   clear gw gf km
   refine ⟨_, rfl, ?_⟩
   refine Ops_nil ?_
   refine then_n (k23 _ _ ?_)
   clear k23 K23
   refine W_seq_k fun K25 k25 => ?_
   refine W_region [45, 46, 44, 47, 48, 4, 5] rfl (Ops_step (R_move rfl) rfl rfl ?_)
   refine Ops_call (C_func bd20 rfl) rfl rfl ?_
   refine (journal_Open_ok (z0 := il) hI.st (hg.up hI.le) dh dw b6 dx b7 dy b8 h).mono ?_
   rintro _ n6 (⟨mc, lq, i3, i4, i5, i6, i7, i8, mz, m0, rfl, md, ko, im, io, ip, iq, ir, it, h⟩ | ⟨iu, b9, i9, ja, jb, jc, jd, je, iv, ca, jf, jg, me, cb, m1, m2, rfl, fh, af, ba, aa, bc, ab, bd, ac, be, ag, bf, ad, bg, ah, h⟩)
   ·
    exact h.elim
   ·
    have gx := be
    replace be := Nat.le_trans hI.size be
    have gy := bg
    replace bg := Nat.le_trans hI.size bg
    refine Exists.elim (hI.call fh (new1 ai)) fun L26b0_ di => ?_
    have mf := hI.size
    replace hI := di.1
    have dj := di.2.1
    have iw := di.2.2
    clear di
    replace b6 := b6.up dj.hh
    replace b7 := b7.up dj.hh
    replace b8 := b8.up dj.hh
    clear dh
    clear fh dj iw
    refine ⟨_, rfl, ?_⟩
    refine Ops_step (R_move rfl) rfl rfl ?_
    refine Ops_step (R_extract (v := .pointer (some ⟨iv, 0, none⟩)) rfl rfl) rfl rfl ?_
    refine Ops_step (R_extract (v := vi iu) rfl rfl) rfl rfl ?_
    refine Ops_step (R_assign rfl) rfl rfl (Ops_step (R_assign rfl) rfl rfl ?_)
    refine Ops_nil ?_
    refine then_n (k25 _ _ ?_)
    clear k25 K25
    refine W_keepB [4, 5] fun B_ b_ => ?_
    simp only [e_, Nat.reduceAdd, Nat.reduceBEq] at b_
    subst b_
    refine W_seq_k fun K28 k28 => ?_
    refine W_region [50, 51, 49, 52, 53, 54, 6, 7, 8] rfl (Ops_step (R_move rfl) rfl rfl ?_)
    refine Ops_call (C_func bd18 rfl) rfl rfl ?_
    refine (journal_Journal_At_ok (x1 := 1) (z0 := ca) (z1 := cb) (z2 := b9) hI.st (hg.up hI.le) ah af ba aa bc ab bd ac ag bf ad h).mono ?_
    rintro _ n7 ⟨kp, kq, kr, gz, kt, n8, n9, rfl, g6, bj, h⟩
    refine Exists.elim (hI.call g6 (by simp)) fun m3 gg => ?_
    have ku := hI.size
    replace hI := gg.1
    have cv := gg.2.1
    have kv := gg.2.2
    clear gg
    replace af := af.up cv (by simp)
    replace aa := aa.up cv.hh
    replace ab := ab.up cv.hh
    replace ac := ac.up cv.hh
    replace ag := ag.up cv (by simp)
    replace ad := ad.up cv.hh
    replace ah := ah.up cv.hh cv (by simp)
    replace bj := OwnS.backS bj ku (Le.refl _)
    clear g6 cv kv
    refine ⟨_, rfl, ?_⟩
    refine Exists.elim (bj.freeze hI) fun ia dz => Exists.elim dz fun oa dz => ?_
    replace hI := dz.1
    have cw := dz.2.1
    have c8 := dz.2.2.1 (Le.no _)
    have m4 := bj.cap
    replace af := af.up cw (af.sep bj (by decide))
    replace aa := aa.up cw.hh
    replace ab := ab.up cw.hh
    replace ac := ac.up cw.hh
    replace ag := ag.up cw (ag.sep bj (by decide))
    replace ad := ad.up cw.hh
    replace ah := ah.up cw.hh cw (ah.neO bj)
    clear dz cw bj
    refine Ops_step (R_move rfl) rfl rfl ?_
    refine Ops_step (R_extract (v := vi kp) rfl rfl) rfl rfl ?_
    refine Ops_step (R_extract (v := .slice kq gz.length kr) rfl rfl) rfl rfl ?_
    refine Ops_step (R_extract (v := .bool kt) rfl rfl) rfl rfl ?_
    refine Ops_step (R_assign rfl) rfl rfl (Ops_step (R_assign rfl) rfl rfl (Ops_step (R_assign rfl) rfl rfl ?_))
    refine Ops_nil ?_
    refine then_n (k28 _ _ ?_)
    clear k28 K28
    refine W_keepB [4, 5, 6, 7, 8] fun B_ b_ => ?_
    simp only [e_, Nat.reduceAdd, Nat.reduceBEq] at b_
    subst b_
    refine W_seq_k fun K32 k32 => ?_
    refine W_region [55, 56, 57, 58, 59, 60, 61, 62, 63, 64, 65, 66, 67, 68, 69, 70, 71, 72, 73, 74, 75, 76, 77, 78, 79, 80, 81, 82, 83, 0] rfl (Ops_step (R_move rfl) rfl rfl (Ops_step (R_eql rfl rfl) rfl rfl (Ops_step (R_move rfl) rfl rfl ?_)))
    refine Ops_split 57 rfl (fun fi => ?_) (fun fi => ?_)
    ·
     replace h := h.1 fi
     refine Ops_step (R_move rfl) rfl rfl ?_
     refine Ops_call (C_func bd19 rfl) rfl rfl ?_
     refine (journal_Journal_Len_ok (z0 := ca) (z1 := cb) (z2 := b9) hI.st (hg.up hI.le) ah af ba aa bc ab bd ac ag bf ad h).mono ?_
     rintro _ ob ⟨m5, oc, od, rfl, g7, h⟩
     refine Exists.elim (hI.call g7 (by simp)) fun m6 gh => ?_
     have m7 := hI.size
     replace hI := gh.1
     have ci := gh.2.1
     have kw := gh.2.2
     clear gh
     replace af := af.up ci (by simp)
     replace aa := aa.up ci.hh
     replace ab := ab.up ci.hh
     replace ac := ac.up ci.hh
     replace ag := ag.up ci (by simp)
     replace ad := ad.up ci.hh
     replace ah := ah.up ci.hh ci (by simp)
     replace c8 := c8.up ci.ll
     clear g7 ci kw
     refine ⟨_, rfl, ?_⟩
     refine Ops_step (R_eql rfl rfl) rfl rfl (Ops_step (R_pick_true rfl rfl) rfl rfl (Ops_step (R_move rfl) rfl rfl ?_))
     refine Ops_split 62 rfl (fun fj => ?_) (fun fj => ?_)
     ·
      replace h := h.1 fj
      refine Ops_step (R_move rfl) rfl rfl ?_
      refine Ops_call (C_func bd17 rfl) rfl rfl ?_
      refine (journal_Journal_Bytes_ok (x1 := 3) (z0 := ca) (z1 := cb) (z2 := b9) hI.st (hg.up hI.le) ah af ba aa bc ab bd ac ag bf ad h).mono ?_
      rintro _ oe ⟨m8, og, oh, rfl, g8, h⟩
      refine Exists.elim (hI.call g8 (by simp)) fun m9 gi => ?_
      have na := hI.size
      replace hI := gi.1
      have cj := gi.2.1
      have kx := gi.2.2
      clear gi
      replace af := af.up cj (by simp)
      replace aa := aa.up cj.hh
      replace ab := ab.up cj.hh
      replace ac := ac.up cj.hh
      replace ag := ag.up cj (by simp)
      replace ad := ad.up cj.hh
      replace ah := ah.up cj.hh cj (by simp)
      replace c8 := c8.up cj.ll
      clear g8 cj kx
      refine ⟨_, rfl, ?_⟩
      refine Ops_step (R_eql rfl rfl) rfl rfl (Ops_step (R_pick_true rfl rfl) rfl rfl (Ops_step (R_move rfl) rfl rfl ?_))
      refine Ops_split 67 rfl (fun fk => ?_) (fun fk => ?_)
      ·
       replace h := h.1 fk
       refine Ops_step (R_move rfl) rfl rfl (Ops_step (R_eql rfl rfl) rfl rfl (Ops_step (R_pick_true rfl rfl) rfl rfl (Ops_step (R_move rfl) rfl rfl ?_)))
       refine Ops_split 71 rfl (fun fm => ?_) (fun fm => ?_)
       ·
        replace h := h.1 fm
        refine Ops_step (R_move rfl) rfl rfl ?_
        refine Ops_step (X_bytesStr (bs := gz) Try.underlying29 Try.underlying5 Try.underlying9 rfl rfl ((c8.up hI.sub).fz.rd hI.st)) rfl rfl ?_
        refine Ops_step (R_strEqB rfl rfl) rfl rfl (Ops_step (R_pick_true rfl rfl) rfl rfl (Ops_step (R_move rfl) rfl rfl ?_))
        refine Ops_split 76 rfl (fun fo => ?_) (fun fo => ?_)
        ·
         replace h := h.1 fo
         refine Ops_step (R_move rfl) rfl rfl (Ops_step (R_pick_true rfl rfl) rfl rfl (Ops_step (R_move rfl) rfl rfl ?_))
         refine Ops_splitB 79 rfl (fun fp => ?_) (fun fp => ?_)
         ·
          replace h := h.1 fp
          refine Ops_step (R_move rfl) rfl rfl ?_
          refine Ops_call (C_func bd15 rfl) rfl rfl ?_
          refine (journal_Journal_Put_ok (x1 := 32) (x2 := []) (z0 := ca) (z1 := cb) (z2 := b9) hI.st (hg.up hI.le) ah af ba aa bc ab bd ac ag bf ad (Nat.le_refl 0) Sl.nil h).mono ?_
          rintro _ ol ⟨ky, mg, kz, la, mh, mi, lb, lc, ld, lf, lg, lh, om, oo, rfl, g9, lr, jh, ji, ls, lu, jj, jk, jl, jm, jn, jo, h⟩
          refine Exists.elim (hI.call g9 (memG be (memG bg (memG ai memN)))) fun nb gj => ?_
          have nc := hI.size
          replace hI := gj.1
          have fq := gj.2.1
          have li := gj.2.2
          clear gj
          replace aa := aa.up fq.hh
          replace ab := ab.up fq.hh
          replace ac := ac.up fq.hh
          replace ad := ad.up fq.hh
          clear ag
          clear ah
          clear af
          clear g9 fq li
          refine ⟨_, rfl, ?_⟩
          refine Ops_step (R_eql rfl rfl) rfl rfl (Ops_step (R_pick_true rfl rfl) rfl rfl (Ops_step (R_assign rfl) rfl rfl ?_))
          refine Ops_nil ?_
          refine then_n (k32 _ _ ?_)
          clear k32 K32
          refine W_keepB [0] fun B_ b_ => ?_
          simp only [e_, Nat.reduceAdd, Nat.reduceBEq] at b_
          subst b_
          refine W_ret ?_
          refine ⟨_, ⟨_, _, rfl, rfl, rfl⟩, ?_⟩
          exact ⟨(decide (ky = 10)), _, _, rfl, hI, h⟩
         ·
          replace h := h.2 fp
          refine Ops_pass rfl rfl (Ops_pass rfl rfl (Ops_pass rfl rfl (Ops_step (R_pick_false rfl rfl) rfl rfl (Ops_step (R_assign rfl) rfl rfl ?_))))
          refine Ops_nil ?_
          refine then_n (k32 _ _ ?_)
          clear k32 K32
          refine W_keepB [0] fun B_ b_ => ?_
          simp only [e_, Nat.reduceAdd, Nat.reduceBEq] at b_
          subst b_
          refine W_ret ?_
          refine ⟨_, ⟨_, _, rfl, rfl, rfl⟩, ?_⟩
          exact ⟨false, _, _, rfl, hI, h⟩
        ·
         replace h := h.2 fo
         refine Ops_pass rfl rfl (Ops_step (R_pick_false rfl rfl) rfl rfl (Ops_step (R_move rfl) rfl rfl (Ops_pass rfl rfl (Ops_pass rfl rfl ?_))))
         refine Ops_pass rfl rfl (Ops_step (R_pick_false rfl rfl) rfl rfl (Ops_step (R_assign rfl) rfl rfl ?_))
         refine Ops_nil ?_
         refine then_n (k32 _ _ ?_)
         clear k32 K32
         refine W_keepB [0] fun B_ b_ => ?_
         simp only [e_, Nat.reduceAdd, Nat.reduceBEq] at b_
         subst b_
         refine W_ret ?_
         refine ⟨_, ⟨_, _, rfl, rfl, rfl⟩, ?_⟩
         exact ⟨false, _, _, rfl, hI, h⟩
       ·
        replace h := h.2 fm
        refine Ops_pass rfl rfl (Ops_pass rfl rfl (Ops_pass rfl rfl (Ops_step (R_pick_false rfl rfl) rfl rfl (Ops_step (R_move rfl) rfl rfl ?_))))
        refine Ops_pass rfl rfl (Ops_step (R_pick_false rfl rfl) rfl rfl (Ops_step (R_move rfl) rfl rfl (Ops_pass rfl rfl (Ops_pass rfl rfl ?_))))
        refine Ops_pass rfl rfl (Ops_step (R_pick_false rfl rfl) rfl rfl (Ops_step (R_assign rfl) rfl rfl ?_))
        refine Ops_nil ?_
        refine then_n (k32 _ _ ?_)
        clear k32 K32
        refine W_keepB [0] fun B_ b_ => ?_
        simp only [e_, Nat.reduceAdd, Nat.reduceBEq] at b_
        subst b_
        refine W_ret ?_
        refine ⟨_, ⟨_, _, rfl, rfl, rfl⟩, ?_⟩
        exact ⟨false, _, _, rfl, hI, h⟩
      ·
       replace h := h.2 fk
       refine Ops_pass rfl rfl (Ops_pass rfl rfl (Ops_step (R_pick_false rfl rfl) rfl rfl (Ops_step (R_move rfl) rfl rfl (Ops_pass rfl rfl ?_))))
       refine Ops_pass rfl rfl (Ops_pass rfl rfl (Ops_step (R_pick_false rfl rfl) rfl rfl (Ops_step (R_move rfl) rfl rfl (Ops_pass rfl rfl ?_))))
       refine Ops_step (R_pick_false rfl rfl) rfl rfl (Ops_step (R_move rfl) rfl rfl (Ops_pass rfl rfl (Ops_pass rfl rfl (Ops_pass rfl rfl ?_))))
       refine Ops_step (R_pick_false rfl rfl) rfl rfl (Ops_step (R_assign rfl) rfl rfl ?_)
       refine Ops_nil ?_
       refine then_n (k32 _ _ ?_)
       clear k32 K32
       refine W_keepB [0] fun B_ b_ => ?_
       simp only [e_, Nat.reduceAdd, Nat.reduceBEq] at b_
       subst b_
       refine W_ret ?_
       refine ⟨_, ⟨_, _, rfl, rfl, rfl⟩, ?_⟩
       exact ⟨false, _, _, rfl, hI, h⟩
     ·
      replace h := h.2 fj
      refine Ops_pass rfl rfl (Ops_pass rfl rfl (Ops_pass rfl rfl (Ops_step (R_pick_false rfl rfl) rfl rfl (Ops_step (R_move rfl) rfl rfl ?_))))
      refine Ops_pass rfl rfl (Ops_pass rfl rfl (Ops_step (R_pick_false rfl rfl) rfl rfl (Ops_step (R_move rfl) rfl rfl (Ops_pass rfl rfl ?_))))
      refine Ops_pass rfl rfl (Ops_pass rfl rfl (Ops_step (R_pick_false rfl rfl) rfl rfl (Ops_step (R_move rfl) rfl rfl (Ops_pass rfl rfl ?_))))
      refine Ops_step (R_pick_false rfl rfl) rfl rfl (Ops_step (R_move rfl) rfl rfl (Ops_pass rfl rfl (Ops_pass rfl rfl (Ops_pass rfl rfl ?_))))
      refine Ops_step (R_pick_false rfl rfl) rfl rfl (Ops_step (R_assign rfl) rfl rfl ?_)
      refine Ops_nil ?_
      refine then_n (k32 _ _ ?_)
      clear k32 K32
      refine W_keepB [0] fun B_ b_ => ?_
      simp only [e_, Nat.reduceAdd, Nat.reduceBEq] at b_
      subst b_
      refine W_ret ?_
      refine ⟨_, ⟨_, _, rfl, rfl, rfl⟩, ?_⟩
      exact ⟨false, _, _, rfl, hI, h⟩
    ·
     replace h := h.2 fi
     refine Ops_pass rfl rfl (Ops_pass rfl rfl (Ops_pass rfl rfl (Ops_step (R_pick_false rfl rfl) rfl rfl (Ops_step (R_move rfl) rfl rfl ?_))))
     refine Ops_pass rfl rfl (Ops_pass rfl rfl (Ops_pass rfl rfl (Ops_step (R_pick_false rfl rfl) rfl rfl (Ops_step (R_move rfl) rfl rfl ?_))))
     refine Ops_pass rfl rfl (Ops_pass rfl rfl (Ops_step (R_pick_false rfl rfl) rfl rfl (Ops_step (R_move rfl) rfl rfl (Ops_pass rfl rfl ?_))))
     refine Ops_pass rfl rfl (Ops_pass rfl rfl (Ops_step (R_pick_false rfl rfl) rfl rfl (Ops_step (R_move rfl) rfl rfl (Ops_pass rfl rfl ?_))))
     refine Ops_step (R_pick_false rfl rfl) rfl rfl (Ops_step (R_move rfl) rfl rfl (Ops_pass rfl rfl (Ops_pass rfl rfl (Ops_pass rfl rfl ?_))))
     refine Ops_step (R_pick_false rfl rfl) rfl rfl (Ops_step (R_assign rfl) rfl rfl ?_)
     refine Ops_nil ?_
     refine then_n (k32 _ _ ?_)
     clear k32 K32
     refine W_keepB [0] fun B_ b_ => ?_
     simp only [e_, Nat.reduceAdd, Nat.reduceBEq] at b_
     subst b_
     refine W_ret ?_
     refine ⟨_, ⟨_, _, rfl, rfl, rfl⟩, ?_⟩
     exact ⟨false, _, _, rfl, hI, h⟩

theorem sealskinlaw06_records_ok {G : Gh} {w : World} (hS : St G w) (hg : GL G) {d0 : Nat} {z0 : journal_Journal} {ay : Option Addr} {az : Nat} {d1 : Nat} {z1 : List (Int × Int)} (ag : MTok G G w d1 z1) {d2 : Nat} {z2 : disk_Disk} {a4 : Option Addr} {a5 : Nat} {a6 : Option Addr} {a7 : Nat} {a8 : Option Addr} {a9 : Nat} (ah : Tok G w d2 53 ([.slice a4 z2.files_.e0_.length a5, .slice a6 z2.files_.e1_.length a7, .slice a8 z2.files_.e2_.length a9, vi z2.room_, .bool z2.off_, .bool z2.armed_, vi z2.left_])) (bd : z2.files_.e0_.length ≤ a5) (aa : Sl G a4 z2.files_.e0_) (be : z2.files_.e1_.length ≤ a7) (ab : Sl G a6 z2.files_.e1_) (bf : z2.files_.e2_.length ≤ a9) (ac : Sl G a8 z2.files_.e2_) (ai : Tok G w d0 46 ([.slice ay z0.book_.l_.length az, .map (some d1), .pointer (some ⟨d2, 0, none⟩), vi z0.gen_, vi z0.place_])) (bg : z0.book_.l_.length ≤ az) (ad : Sl G ay z0.book_.l_) {Q : (List sealskinref06_Record) → Prop} (h : sealskinlaw06_records z0 z1 z2 Q) : Calls Try.prog 16 #[.pointer (some ⟨d0, 0, none⟩)] w fun e w2 => ∃ (A0 : Option Addr) (c0 : Nat) (r0 : List sealskinref06_Record) (L H : Gh), e = .returned (.slice A0 r0.length c0) ∧ Inv [] G w L H w2 ∧ OwnS w.heap.size 39 L H w2 A0 c0 r0 ∧ Q r0 := by
 unfold sealskinlaw06_records at h
 have hI := Inv.start (M := []) hS
 refine calls_W 29 Try.func16 rfl Try.ntmps16 rfl [.tmp 2] rfl ?_
 have bh := ai.blk.lt
 have bi := ag.lt
 have bj := ah.blk.lt
 refine W_seq_k fun K1 k1 => ?_
 refine W_region [2] rfl (Ops_step (R_assign rfl) rfl rfl ?_)
 refine Ops_nil ?_
 refine then_n (k1 _ _ ?_)
 clear k1 K1
 refine W_seq_k fun K2 k2 => ?_
 refine W_region [3] rfl (Ops_step (R_assign rfl) rfl rfl ?_)
 refine Ops_nil ?_
 refine then_n (k2 _ _ ?_)
 clear k2 K2
 refine ex_ h fun cz bw h => ?_
 refine W_seq_join [] [3] (fun vals_ w2 => ∃ (ba : List sealskinref06_Record) (bo : Option Addr) (bp : Nat) (L H : Gh), vals_ = [.slice bo ba.length bp] ∧ cz ba ∧ Inv [] G w L H w2 ∧ Le Gh.no L ∧ Le G H ∧ OwnS w.heap.size 39 L H w2 bo bp ba ∧ MTok H H w2 d1 z1 ∧ Tok H w2 d2 53 ([.slice a4 z2.files_.e0_.length a5, .slice a6 z2.files_.e1_.length a7, .slice a8 z2.files_.e2_.length a9, vi z2.room_, .bool z2.off_, .bool z2.armed_, vi z2.left_]) ∧ Tok H w2 d0 46 ([.slice ay z0.book_.l_.length az, .map (some d1), .pointer (some ⟨d2, 0, none⟩), vi z0.gen_, vi z0.place_]) ∧ True) (fun B_ b_ => ?_) (fun B_ b_ => ?_)
 ·
  simp only [e_, Nat.reduceAdd, Nat.reduceBEq] at b_
  subst b_
  clear bw
  have ak := Le.refl Gh.no
  have af := Le.refl G
  refine W_seq_k fun K4 k4 => ?_
  refine W_region [8, 9, 10] rfl (Ops_step (R_move rfl) rfl rfl ?_)
  refine Ops_call (C_func bd19 rfl) rfl rfl ?_
  refine (journal_Journal_Len_ok (z0 := z0) (z1 := z1) (z2 := z2) hI.st (hg.up hI.le) ag ah bd aa be ab bf ac ai bg ad h).mono ?_
  rintro _ dg ⟨c5, dh, c6, rfl, b4, h⟩
  refine Exists.elim (hI.call b4 (by simp)) fun cp co => ?_
  have c7 := hI.size
  replace hI := co.1
  have bl := co.2.1
  have cq := co.2.2
  clear co
  replace ad := ad.up bl.hh
  replace ag := ag.up bl.hh bl (by simp)
  replace aa := aa.up bl.hh
  replace ab := ab.up bl.hh
  replace ac := ac.up bl.hh
  replace ah := ah.up bl (by simp)
  replace ai := ai.up bl (by simp)
  replace ak := ak.trans bl.ll
  replace af := af.trans bl.hh
  clear b4 bl cq
  refine ⟨_, rfl, ?_⟩
  refine Ops_step (R_move rfl) rfl rfl ?_
  refine Ops_nil ?_
  refine then_n (k4 _ _ ?_)
  clear k4 K4
  refine W_block ?_
  refine Exists.elim h fun c8 h => Exists.elim h fun c9 h => ?_
  have cw := h.1
  have b5 := h.2
  clear h
  refine W_loopB [0, 9] [3, 10] (fun m vals_ w2 => ∃ (av : List sealskinref06_Record) (bm : Option Addr) (bn : Nat) (ap : Int) (L H : Gh), vals_ = [.slice bm av.length bn, vi ap] ∧ c8 m av ap ∧ Inv [] G w L H w2 ∧ Le cp L ∧ Le c6 H ∧ OwnS w.heap.size 39 L H w2 bm bn av ∧ MTok H H w2 d1 z1 ∧ Tok H w2 d2 53 ([.slice a4 z2.files_.e0_.length a5, .slice a6 z2.files_.e1_.length a7, .slice a8 z2.files_.e2_.length a9, vi z2.room_, .bool z2.off_, .bool z2.armed_, vi z2.left_]) ∧ Tok H w2 d0 46 ([.slice ay z0.book_.l_.length az, .map (some d1), .pointer (some ⟨d2, 0, none⟩), vi z0.gen_, vi z0.place_]) ∧ True) c9 _ rfl ⟨[], none, 0, 0, _, _, rfl, cw, hI, Le.refl _, Le.refl _, OwnS.nil, ag, ah, ai, trivial⟩ fun B_ b_ => ?_
  clear cw
  simp only [e_, Nat.reduceAdd, Nat.reduceBEq] at b_
  subst b_
  clear ai
  clear ag
  clear ah
  rintro da _ di ⟨av, bm, bn, ap, dj, dk, rfl, b6, b7, aq, al, ae, ag, ah, ai, -⟩
  replace hI := b7
  clear b7
  have h := b5 da av ap b6
  clear b5 b6
  replace ad := ad.up al
  replace aa := aa.up al
  replace ab := ab.up al
  replace ac := ac.up al
  replace ak := ak.trans aq
  replace af := af.trans al
  refine W_seq_k fun K7 k7 => ?_
  refine W_region [11] rfl (Ops_step (R_lss rfl rfl) rfl rfl ?_)
  refine Ops_nil ?_
  refine then_n (k7 _ _ ?_)
  clear k7 K7
  refine W_seq_k fun K8 k8 => ?_
  refine W_if rfl (fun bx => ?_) (fun bx => ?_)
  ·
   replace h := h.1 bx
   refine W_skip ?_
   refine then_n (k8 _ _ ?_)
   clear k8 K8
   refine W_seq_k fun K10 k10 => ?_
   refine W_block ?_
   refine W_seq_k fun K11 k11 => ?_
   refine W_region [12, 4] rfl (Ops_step (R_move rfl) rfl rfl (Ops_step (R_assign rfl) rfl rfl ?_))
   refine Ops_nil ?_
   refine then_n (k11 _ _ ?_)
   clear k11 K11
   refine W_seq_k fun K12 k12 => ?_
   refine W_region [14, 15, 16, 13, 17, 18, 19, 5, 6, 7] rfl (Ops_step (R_move rfl) rfl rfl (Ops_step (R_move rfl) rfl rfl ?_))
   refine Ops_call (C_func bd18 rfl) rfl rfl ?_
   refine (journal_Journal_At_ok (x1 := ap) (z0 := z0) (z1 := z1) (z2 := z2) hI.st (hg.up hI.le) ag ah bd aa be ab bf ac ai bg ad h).mono ?_
   rintro _ db ⟨ar, b8, b9, ao, ca, dc, dd, rfl, br, aj, h⟩
   refine Exists.elim (hI.call br (by simp)) fun cx bq => ?_
   have cb := hI.size
   replace hI := bq.1
   have am := bq.2.1
   have cc := bq.2.2
   clear bq
   replace ad := ad.up am.hh
   replace aa := aa.up am.hh
   replace ab := ab.up am.hh
   replace ac := ac.up am.hh
   replace ak := ak.trans am.ll
   replace af := af.trans am.hh
   replace ag := ag.up am.hh am (by simp)
   replace ah := ah.up am (by simp)
   replace ai := ai.up am (by simp)
   replace ae := ae.up am.ll am (by simp)
   replace aq := aq.trans am.ll
   replace al := al.trans am.hh
   replace aj := OwnS.backS aj cb (Le.refl _)
   clear br am cc
   refine ⟨_, rfl, ?_⟩
   refine Exists.elim (aj.freeze hI) fun cr bc => Exists.elim bc fun ct bc => ?_
   replace hI := bc.1
   have an := bc.2.1
   have cd := bc.2.2.1 (Le.no _)
   have cy := aj.cap
   replace ad := ad.up an.hh
   replace aa := aa.up an.hh
   replace ab := ab.up an.hh
   replace ac := ac.up an.hh
   replace ak := ak.trans an.ll
   replace af := af.trans an.hh
   replace ag := ag.up an.hh an (aj.old bi)
   replace ah := ah.up an (aj.old bj)
   replace ai := ai.up an (aj.old bh)
   replace ae := ae.up an.ll an (ae.sep aj (by decide))
   replace aq := aq.trans an.ll
   replace al := al.trans an.hh
   clear bc an aj
   refine Ops_step (R_move rfl) rfl rfl ?_
   refine Ops_step (R_extract (v := vi ar) rfl rfl) rfl rfl ?_
   refine Ops_step (R_extract (v := .slice b8 ao.length b9) rfl rfl) rfl rfl ?_
   refine Ops_step (R_extract (v := .bool ca) rfl rfl) rfl rfl ?_
   refine Ops_step (R_assign rfl) rfl rfl (Ops_step (R_assign rfl) rfl rfl (Ops_step (R_assign rfl) rfl rfl ?_))
   refine Ops_nil ?_
   refine then_n (k12 _ _ ?_)
   clear k12 K12
   refine W_keepB [0, 3, 5, 6, 9, 10] fun B_ b_ => ?_
   simp only [e_, Nat.reduceAdd, Nat.reduceBEq] at b_
   subst b_
   refine W_region [20, 21, 22, 23, 24, 25, 26, 3] rfl (Ops_step (R_move rfl) rfl rfl (Ops_step (R_move rfl) rfl rfl (Ops_step (R_move rfl) rfl rfl ?_)))
   refine Ops_step (X_bytesStr (bs := ao) Try.underlying29 Try.underlying5 Try.underlying9 rfl rfl ((cd.up hI.sub).fz.rd hI.st)) rfl rfl ?_
   refine Ops_step (R_build (pl := [(0, 1), (1, 1)]) (cs := [vi ar, vs (Str.mk ao)]) zr39 pl39 rfl rfl rfl) rfl rfl ?_
   have aw := ae.lt
   refine Ops_to (R_buildSlice el36 zr39 (by decide) (by decide) rfl rfl) rfl rfl ?_
   rintro _ de ⟨ce, rfl, cf, bt, au⟩
   have cg : OwnS w.heap.size 39 cr ct _ (some ⟨ce, 0, none⟩) 1 ([(sealskinref06_Record.mk ar (Str.mk ao))] : List sealskinref06_Record) := OwnS.ofBlk (css := [[vi ar, vs (Str.mk ao)]]) hI.st cf bt (.cons rfl .nil) rfl (by have := hI.size; omega) (by show 1 ≤ maxLen; decide)
   replace hI := hI.fr0 au
   replace ag := ag.fr0 au
   replace ah := ah.fr0 au
   replace ai := ai.fr0 au
   replace ae := ae.fr0 au
   clear au bt
   have bu : ∀ i ∈ bk (some ⟨ce, 0, none⟩) 1, i ∉ bk bm bn := sep_new (fun i_ hi_ => by have := (bk_of hi_).1; simp only [blkOf, List.mem_singleton] at this; omega) aw
   have ci := h.1
   replace h := h.2
   refine Ops_to (X_append (α := sealskinref06_Record) (xs := av) (ys := ([(sealskinref06_Record.mk ar (Str.mk ao))] : List sealskinref06_Record)) el36 rfl rfl ae (Srcs.ofOwn Try.underlying36 cg (by decide)) hI.st ci (by decide) hI.size) rfl rfl ?_
   rintro _ df ⟨cu, cv, rfl, cj, ax, bz⟩
   clear bz
   replace hI := hI.tok ax ae.out (ae.new (Nat.le_refl _))
   replace ag := ag.fr ax (ae.old bi)
   replace ah := ah.fr ax (ae.old bj)
   replace ai := ai.fr ax (ae.old bh)
   clear ax ae
   refine Ops_step (R_assign rfl) rfl rfl ?_
   refine Ops_nil ?_
   refine block_n ?_
   refine then_n (k10 _ _ ?_)
   clear k10 K10
   refine W_keepB [0, 3, 9, 10] fun B_ b_ => ?_
   simp only [e_, Nat.reduceAdd, Nat.reduceBEq] at b_
   subst b_
   refine W_region [27, 10] rfl ?_
   have bv := h.1
   replace h := h.2
   refine Ops_step (R_add rfl rfl (wI bv.1 bv.2)) rfl rfl (Ops_step (R_move rfl) rfl rfl ?_)
   refine Ops_nil ?_
   refine then_n ?_
   exact h.elim fun m_ h => ⟨m_, _, h.1, rfl, ⟨(av ++ ([(sealskinref06_Record.mk ar (Str.mk ao))] : List sealskinref06_Record)), cu, cv, (ap + 1), _, _, rfl, h.2, hI, aq, al, cj, ag, ah, ai, trivial⟩, ⟨rfl, rfl, trivial⟩⟩
  ·
   replace h := h.2 bx
   refine W_exit ?_
   refine then_exit ?_
   clear k8 K8
   refine then_exit ?_
   refine block_exit ?_
   refine then_n ?_
   exact ⟨_, rfl, ⟨av, bm, bn, _, _, rfl, h, hI, ak, af, ae, ag, ah, ai, trivial⟩, trivial⟩
 ·
  simp only [e_, Nat.reduceAdd, Nat.reduceBEq] at b_
  subst b_
  clear h
  clear ai
  clear ag
  clear ah
  rintro _ dl ⟨ba, bo, bp, dm, dn, rfl, ck, cl, ak, af, cm, ag, ah, ai, -⟩
  replace hI := cl
  clear cl
  have h := bw ba ck
  clear bw ck
  replace ad := ad.up af
  replace aa := aa.up af
  replace ab := ab.up af
  replace ac := ac.up af
  refine W_seq_k fun K21 k21 => ?_
  refine W_region [28, 2] rfl (Ops_step (R_move rfl) rfl rfl (Ops_step (R_assign rfl) rfl rfl ?_))
  refine Ops_nil ?_
  refine then_n (k21 _ _ ?_)
  clear k21 K21
  refine W_ret ?_
  refine ⟨_, ⟨_, _, rfl, rfl, rfl⟩, ?_⟩
  exact ⟨bo, bp, ba, _, _, rfl, hI, cm, h⟩

end Go.Proofs.Ytkmljjhjojolcaa

