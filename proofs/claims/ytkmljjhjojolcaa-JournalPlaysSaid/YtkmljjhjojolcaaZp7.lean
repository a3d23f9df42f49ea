/- What is shown of the program on the way to the law. -/
import Derived.Test.YtkmljjhjojolcaaZp3
import Derived.Test.YtkmljjhjojolcaaZp4
import Derived.Test.YtkmljjhjojolcaaZp5
import Derived.Test.YtkmljjhjojolcaaProg
set_option linter.unusedVariables false
set_option linter.unusedSimpArgs false
set_option maxHeartbeats 4000000
namespace Go.Proofs.Ytkmljjhjojolcaa
open Go Go.Sx Go.Lx
namespace TJtC
theorem hm : Try.prog.follows .mixedOrders = true := by kernel_rfl
theorem ag25 : aggB Try.prog 25 = some false := by kernel_rfl
theorem ag29 : aggB Try.prog 29 = some false := by kernel_rfl
theorem ag3 : aggB Try.prog 3 = some false := by kernel_rfl
theorem ag4 : aggB Try.prog 4 = some false := by kernel_rfl
theorem ag51 : aggB Try.prog 51 = some true := by kernel_rfl
theorem bd48 : bodied Try.prog 48 = true := by kernel_rfl
theorem bd49 : bodied Try.prog 49 = true := by kernel_rfl
theorem bd50 : bodied Try.prog 50 = true := by kernel_rfl
theorem bd51 : bodied Try.prog 51 = true := by kernel_rfl
theorem bd63 : bodied Try.prog 63 = true := by kernel_rfl
theorem bd64 : bodied Try.prog 64 = true := by kernel_rfl
theorem bd65 : bodied Try.prog 65 = true := by kernel_rfl
theorem bd79 : bodied Try.prog 79 = true := by kernel_rfl
theorem bd89 : bodied Try.prog 89 = true := by kernel_rfl
theorem el116 : Elem Try.prog 116 3 1 8 := Elem.of (by kernel_rfl)
theorem el29 : Elem Try.prog 29 5 1 1 := Elem.of (by kernel_rfl)
theorem fo46_1 : offB Try.prog 46 1 = some 2 := by kernel_rfl
theorem fo53_0 : offB Try.prog 53 0 = some 0 := by kernel_rfl
theorem fo53_1 : offB Try.prog 53 1 = some 3 := by kernel_rfl
theorem fo53_2 : offB Try.prog 53 2 = some 4 := by kernel_rfl
theorem fo53_3 : offB Try.prog 53 3 = some 5 := by kernel_rfl
theorem fo53_4 : offB Try.prog 53 4 = some 6 := by kernel_rfl
theorem fo85_0 : offB Try.prog 85 0 = some 0 := by kernel_rfl
theorem fo85_1 : offB Try.prog 85 1 = some 1 := by kernel_rfl
theorem sz29 : sz Try.prog 29 = some 1 := by kernel_rfl
theorem sz3 : sz Try.prog 3 = some 1 := by kernel_rfl
theorem sz4 : sz Try.prog 4 = some 1 := by kernel_rfl
theorem sz5 : sz Try.prog 5 = some 1 := by kernel_rfl
theorem sz51 : sz Try.prog 51 = some 3 := by kernel_rfl
theorem zr3 : zr Try.prog 3 = some ([.int .i64 0]) := by kernel_rfl
theorem zr5 : zr Try.prog 5 = some ([.int .u8 0]) := by kernel_rfl
end TJtC
open TJtC
theorem journal_Journal_dead_ok {G : Gh} {w : World} (hS : St G w) (hg : GL G) {d0 : Nat} {z0 : journal_Journal} {aa : Option Addr} {ab : Nat} {d1 : Nat} {z1 : List (Int × Int)} (aj : MTok G G w d1 z1) {d2 : Nat} {z2 : disk_Disk} {ac : Option Addr} {ad : Nat} {ae : Option Addr} {af : Nat} {ag : Option Addr} {ah : Nat} (ak : Tok G w d2 53 ([.slice ac z2.files_.e0_.length ad, .slice ae z2.files_.e1_.length af, .slice ag z2.files_.e2_.length ah, vi z2.room_, .bool z2.off_, .bool z2.armed_, vi z2.left_])) (al : z2.files_.e0_.length ≤ ad) (am : Sl G ac z2.files_.e0_) (an : z2.files_.e1_.length ≤ af) (ao : Sl G ae z2.files_.e1_) (ap : z2.files_.e2_.length ≤ ah) (aq : Sl G ag z2.files_.e2_) (ai : Tok G w d0 46 ([.slice aa z0.book_.l_.length ab, .map (some d1), .pointer (some ⟨d2, 0, none⟩), vi z0.gen_, vi z0.place_])) (ar : z0.book_.l_.length ≤ ab) (au : Sl G aa z0.book_.l_) {Q : Bool → Prop} (h : journal_Journal_dead z0 z1 z2 Q) : Calls Try.prog 39 #[.pointer (some ⟨d0, 0, none⟩)] w fun e w2 => ∃ (r0 : Bool) (L H : Gh), e = .returned (.bool r0) ∧ Inv [] G w L H w2 ∧ Q r0 := by
 unfold journal_Journal_dead at h
 have hI := Inv.start (M := []) hS
 refine calls_W 12 Try.func39 rfl Try.ntmps39 rfl [.tmp 2] rfl ?_
 have av := ai.blk.lt
 have aw := aj.lt
 have ax := ak.blk.lt
 refine W_seq_k fun K1 k1 => ?_
 refine W_region [2] rfl (Ops_step (R_assign rfl) rfl rfl ?_)
 refine Ops_nil ?_
 refine then_n (k1 _ _ ?_)
 clear k1 K1
 refine W_seq_k fun K2 k2 => ?_
 refine W_region [3, 4, 5, 6, 7, 8, 9, 10, 11, 2] rfl (Ops_step (R_move rfl) rfl rfl (Ops_step (R_ptrNil Try.underlying26 rfl rfl) rfl rfl (Ops_step (R_move rfl) rfl rfl (Ops_step (R_move rfl) rfl rfl ?_))))
 refine Ops_step (R_nilCheck rfl) rfl rfl (Ops_step (R_fieldAddr fo46_1 rfl) rfl rfl ?_)
 refine Ops_step (R_loadB (v := .pointer (some ⟨d2, 0, none⟩)) ag25 rfl ai.blk rfl) rfl rfl ?_
 refine Ops_step (R_ptrNil Try.underlying25 rfl rfl) rfl rfl (Ops_step (R_pick_false rfl rfl) rfl rfl (Ops_step (R_assign rfl) rfl rfl ?_))
 refine Ops_nil ?_
 refine then_n (k2 _ _ ?_)
 clear k2 K2
 refine W_keepB [2] fun B_ b_ => ?_
 simp only [e_, Nat.reduceAdd, Nat.reduceBEq] at b_
 subst b_
 refine W_ret ?_
 refine ⟨_, ⟨_, _, rfl, rfl, rfl⟩, ?_⟩
 exact ⟨false, _, _, rfl, hI, h⟩

theorem octet_Put_ok {G : Gh} {w : World} (hS : St G w) (hg : GL G) {A0 : Option Addr} {c0 : Nat} {x0 : List UInt8} (hc0 : x0.length ≤ c0) (hs0 : Sl G A0 x0) {A1 : Option Addr} {c1 : Nat} {x1 : List Int} (hc1 : x1.length ≤ c1) (hs1 : Sl G A1 x1) {Q : (List UInt8) → Prop} (h : octet_Put x0 x1 Q) : Calls Try.prog 64 #[.slice A0 x0.length c0, .slice A1 x1.length c1] w fun e w2 => ∃ (A0 : Option Addr) (c0 : Nat) (r0 : List UInt8) (L H : Gh), e = .returned (.slice A0 r0.length c0) ∧ Inv [] G w L H w2 ∧ OwnS w.heap.size 5 L H w2 A0 c0 r0 ∧ Q r0 := by
 unfold octet_Put at h
 have hI := Inv.start (M := []) hS
 refine calls_W 39 Try.func64 rfl Try.ntmps64 rfl [.tmp 4] rfl ?_
 refine W_seq_k fun K1 k1 => ?_
 refine W_region [4] rfl (Ops_step (R_assign rfl) rfl rfl ?_)
 refine Ops_nil ?_
 refine then_n (k1 _ _ ?_)
 clear k1 K1
 refine W_seq_k fun K2 k2 => ?_
 refine W_region [9, 10, 11, 12, 13, 14, 15, 16, 17, 5] rfl (Ops_step (R_move rfl) rfl rfl (Ops_step (R_len Try.underlying29 rfl rfl) rfl rfl (Ops_step (R_move rfl) rfl rfl (Ops_step (R_len Try.underlying116 rfl rfl) rfl rfl ?_))))
 have b6 := h.1
 replace h := h.2
 refine Ops_step (R_mul rfl rfl (wI b6.1 b6.2)) rfl rfl ?_
 have b7 := h.1
 replace h := h.2
 refine Ops_step (R_add rfl rfl (wI b7.1 b7.2)) rfl rfl ?_
 have cl := h.1
 replace h := h.2
 have cm := h.1
 replace h := h.2
 refine Ops_to (X_make0 (α := UInt8) (Eg := Gh.no) (B := _) el29 rfl rfl cl hI.st cm (by decide) (Nat.le_refl _)) rfl rfl ?_
 rintro _ dk ⟨dl, dm, rfl, a5, b8⟩
 replace a5 := a5.le hI.size
 replace hI := hI.fr0 b8
 clear b8
 refine Ops_step (R_move rfl) rfl rfl ?_
 have co := h.1
 replace h := h.2
 refine Ops_to (X_append (α := UInt8) (xs := ([] : List UInt8)) (ys := x0) el29 rfl rfl a5 (Srcs.sc (Srcs.ofSl Try.underlying29 hs0 hI.st (by decide))) hI.st co (by decide) hI.size) rfl rfl ?_
 rintro _ dn ⟨c7, c8, rfl, cp, b9, ca⟩
 clear ca
 replace hI := hI.tok b9 a5.out (a5.new (Nat.le_refl _))
 clear b9 a5
 refine Ops_step (R_assign rfl) rfl rfl ?_
 refine Ops_nil ?_
 refine then_n (k2 _ _ ?_)
 clear k2 K2
 refine W_keepB [1, 5] fun B_ b_ => ?_
 simp only [e_, Nat.reduceAdd, Nat.reduceBEq] at b_
 subst b_
 refine ex_ h fun cq a6 h => ?_
 refine W_seq_join [] [5] (fun vals_ w2 => ∃ (am : List UInt8) (aw : Option Addr) (ax : Nat) (L H : Gh), vals_ = [.slice aw am.length ax] ∧ cq am ∧ Inv [] G w L H w2 ∧ Le Gh.no L ∧ Le G H ∧ OwnS w.heap.size 5 Gh.no H w2 aw ax am ∧ True) (fun B_ b_ => ?_) (fun B_ b_ => ?_)
 ·
  simp only [e_, Nat.reduceAdd, Nat.reduceBEq] at b_
  subst b_
  clear a6
  have aa := Le.refl Gh.no
  have ab := Le.refl G
  refine W_seq_k fun K12 k12 => ?_
  refine W_region [18, 19, 20] rfl (Ops_step (R_move rfl) rfl rfl (Ops_step (R_len Try.underlying116 rfl rfl) rfl rfl (Ops_step (R_move rfl) rfl rfl ?_)))
  refine Ops_nil ?_
  refine then_n (k12 _ _ ?_)
  clear k12 K12
  refine W_block ?_
  refine Exists.elim h fun cr h => Exists.elim h fun ct h => ?_
  have cb := h.1
  have bf := h.2
  clear h
  refine W_loopB [18, 19] [5, 20] (fun m vals_ w2 => ∃ (aj : List UInt8) (aq : Option Addr) (ar : Nat) (ak : Int) (L H : Gh), vals_ = [.slice aq aj.length ar, vi ak] ∧ cr m aj ak ∧ Inv [] G w L H w2 ∧ Le Gh.no L ∧ Le G H ∧ OwnS w.heap.size 5 Gh.no H w2 aq ar aj ∧ True) ct _ rfl ⟨(([] : List UInt8) ++ x0), c7, c8, 0, _, _, rfl, cb, hI, Le.refl _, Le.refl _, cp, trivial⟩ fun B_ b_ => ?_
  clear cb
  simp only [e_, Nat.reduceAdd, Nat.reduceBEq] at b_
  subst b_
  rintro cu _ c9 ⟨aj, aq, ar, ak, bw, bx, rfl, bg, bh, ag, ad, a7, -⟩
  replace hI := bh
  clear bh
  have h := bf cu aj ak bg
  clear bf bg
  replace hs1 := hs1.up ad
  replace aa := aa.trans ag
  replace ab := ab.trans ad
  refine W_seq_k fun K14 k14 => ?_
  refine W_region [21] rfl (Ops_step (R_lss rfl rfl) rfl rfl ?_)
  refine Ops_nil ?_
  refine then_n (k14 _ _ ?_)
  clear k14 K14
  refine W_seq_k fun K15 k15 => ?_
  refine W_if rfl (fun a8 => ?_) (fun a8 => ?_)
  ·
   replace h := h.1 a8
   refine W_skip ?_
   refine then_n (k15 _ _ ?_)
   clear k15 K15
   refine ex_ h fun cv a9 h => ?_
   refine W_seq_join [18, 19, 20] [5] (fun vals_ w2 => ∃ (an : List UInt8) (ay : Option Addr) (az : Nat) (L H : Gh), vals_ = [.slice ay an.length az] ∧ cv an ∧ Inv [] G w L H w2 ∧ Le bw L ∧ Le bx H ∧ OwnS w.heap.size 5 Gh.no H w2 ay az an ∧ True) (fun B_ b_ => ?_) (fun B_ b_ => ?_)
   ·
    simp only [e_, Nat.reduceAdd, Nat.reduceBEq] at b_
    subst b_
    clear a9
    have ah := Le.refl bw
    have ae := Le.refl bx
    refine W_block ?_
    refine W_seq_k fun K18 k18 => ?_
    refine W_region [22, 23, 7] rfl ?_
    refine ex_ h fun bd a4 h => ?_
    have cc := (hs1.atS a4).1
    have cd := (hs1.atS a4).2
    refine Ops_step (R_indexSl Try.underlying116 sz3 rfl rfl a4.1 a4.lt cc) rfl rfl (Ops_step (R_load ag3 rfl (hI.st _ _ cd)) rfl rfl (Ops_step (R_assign rfl) rfl rfl ?_))
    refine Ops_nil ?_
    refine then_n (k18 _ _ ?_)
    clear k18 K18
    refine W_seq_k fun K20 k20 => ?_
    refine W_region [8] rfl (Ops_step (R_assign rfl) rfl rfl ?_)
    refine Ops_nil ?_
    refine then_n (k20 _ _ ?_)
    clear k20 K20
    refine W_block ?_
    refine Exists.elim h fun cw h => Exists.elim h fun cx h => ?_
    have cb := h.1
    have bi := h.2
    clear h
    refine W_loopB [7, 18, 19, 20] [5, 8] (fun m vals_ w2 => ∃ (ai : List UInt8) (au : Option Addr) (av : Nat) (af : Int) (L H : Gh), vals_ = [.slice au ai.length av, vi af] ∧ cw m ai af ∧ Inv [] G w L H w2 ∧ Le bw L ∧ Le bx H ∧ OwnS w.heap.size 5 Gh.no H w2 au av ai ∧ True) cx _ rfl ⟨aj, aq, ar, 7, _, _, rfl, cb, hI, Le.refl _, Le.refl _, a7, trivial⟩ fun B_ b_ => ?_
    clear cb
    simp only [e_, Nat.reduceAdd, Nat.reduceBEq] at b_
    subst b_
    rintro cy _ da ⟨ai, au, av, af, db, cz, rfl, bj, bl, ao, al, ac, -⟩
    replace hI := bl
    clear bl
    have h := bi cy ai af bj
    clear bi bj
    replace hs1 := hs1.up al
    replace aa := aa.trans ao
    replace ab := ab.trans al
    replace ag := ag.trans ao
    replace ad := ad.trans al
    replace ah := ah.trans ao
    replace ae := ae.trans al
    refine W_seq_k fun K22 k22 => ?_
    refine W_seq_k fun K23 k23 => ?_
    refine W_region [24, 25] rfl (Ops_step (R_move rfl) rfl rfl (Ops_step (R_geq rfl rfl) rfl rfl ?_))
    refine Ops_nil ?_
    refine then_n (k23 _ _ ?_)
    clear k23 K23
    refine W_if rfl (fun ba => ?_) (fun ba => ?_)
    ·
     replace h := h.1 ba
     refine W_skip ?_
     refine then_n (k22 _ _ ?_)
     clear k22 K22
     refine W_seq_k fun K25 k25 => ?_
     refine W_block ?_
     refine W_region [28, 29, 30, 31, 32, 33, 34, 35, 36, 5] rfl (Ops_step (R_move rfl) rfl rfl (Ops_step (R_move rfl) rfl rfl (Ops_step (R_max rfl rfl _root_.rfl) rfl rfl (Ops_step (R_move rfl) rfl rfl ?_))))
     have bm := h.1
     replace h := h.2
     refine Ops_step (R_mul rfl rfl (wI bm.1 bm.2)) rfl rfl ?_
     have ce := h.1
     replace h := h.2
     refine Ops_step (R_shr rfl rfl (Int.not_lt.2 ce) (c := shrI (max bd 0) (8 * af)) _root_.rfl) rfl rfl ?_
     refine Ops_step (R_conv Try.underlying3 Try.underlying5 rfl (cI_8 _)) rfl rfl ?_
     have ap := ac.lt
     refine Ops_to (R_buildSlice el29 zr5 (by decide) (by decide) rfl rfl) rfl rfl ?_
     rintro _ dc ⟨cf, rfl, cg, bn, bc⟩
     have ci : OwnS w.heap.size 5 Gh.no cz _ (some ⟨cf, 0, none⟩) 1 ([(UInt8.ofBitVec (BitVec.ofInt 8 (shrI (max bd 0) (8 * af))))] : List UInt8) := OwnS.ofBlk hI.st cg bn (all2_sc' _) rfl (by have := hI.size; omega) (by show 1 ≤ maxLen; decide)
     replace hI := hI.fr0 bc
     replace ac := ac.fr0 bc
     clear bc bn
     have be : ∀ i ∈ bk (some ⟨cf, 0, none⟩) 1, i ∉ bk au av := sep_new (fun i_ hi_ => by have := (bk_of hi_).1; simp only [blkOf, List.mem_singleton] at this; omega) ap
     have cj := h.1
     replace h := h.2
     refine Ops_to (X_append (α := UInt8) (xs := ai) (ys := ([(UInt8.ofBitVec (BitVec.ofInt 8 (shrI (max bd 0) (8 * af))))] : List UInt8)) el29 rfl rfl ac (Srcs.sc (Srcs.ofOwn Try.underlying29 ci (by decide))) hI.st cj (by decide) hI.size) rfl rfl ?_
     rintro _ dd ⟨c5, c6, rfl, ck, bo, bz⟩
     clear bz
     replace hI := hI.tok bo ac.out (ac.new (Nat.le_refl _))
     clear bo ac
     refine Ops_step (R_assign rfl) rfl rfl ?_
     refine Ops_nil ?_
     refine block_n ?_
     refine then_n (k25 _ _ ?_)
     clear k25 K25
     refine W_keepB [5, 7, 8, 18, 19, 20] fun B_ b_ => ?_
     simp only [e_, Nat.reduceAdd, Nat.reduceBEq] at b_
     subst b_
     refine W_region [26, 27, 8] rfl (Ops_step (R_move rfl) rfl rfl ?_)
     have bp := h.1
     replace h := h.2
     refine Ops_step (R_sub rfl rfl (wI bp.1 bp.2)) rfl rfl (Ops_step (R_assign rfl) rfl rfl ?_)
     refine Ops_nil ?_
     refine then_n ?_
     exact h.elim fun m_ h => ⟨m_, _, h.1, rfl, ⟨(ai ++ ([(UInt8.ofBitVec (BitVec.ofInt 8 (shrI (max bd 0) (8 * af))))] : List UInt8)), c5, c6, (af - 1), _, _, rfl, h.2, hI, ao, al, ck, trivial⟩, ⟨rfl, rfl, rfl, rfl, trivial⟩⟩
    ·
     replace h := h.2 ba
     refine W_exit ?_
     refine then_exit ?_
     clear k22 K22
     refine then_exit ?_
     refine block_exit ?_
     refine block_n ?_
     refine then_n ?_
     exact ⟨_, rfl, ⟨ai, au, av, _, _, rfl, h, hI, ah, ae, ac, trivial⟩, ⟨rfl, rfl, rfl, trivial⟩⟩
   ·
    simp only [e_, Nat.reduceAdd, Nat.reduceBEq] at b_
    subst b_
    clear h
    rintro _ de ⟨an, ay, az, df, dg, rfl, bq, br, ah, ae, b4, -⟩
    replace hI := br
    clear br
    have h := a9 an bq
    clear a9 bq
    replace hs1 := hs1.up ae
    replace aa := aa.trans ah
    replace ab := ab.trans ae
    replace ag := ag.trans ah
    replace ad := ad.trans ae
    refine W_region [37, 20] rfl ?_
    have bt := h.1
    replace h := h.2
    refine Ops_step (R_add rfl rfl (wI bt.1 bt.2)) rfl rfl (Ops_step (R_move rfl) rfl rfl ?_)
    refine Ops_nil ?_
    refine then_n ?_
    exact h.elim fun m_ h => ⟨m_, _, h.1, rfl, ⟨an, ay, az, (ak + 1), _, _, rfl, h.2, hI, ag, ad, b4, trivial⟩, ⟨rfl, rfl, trivial⟩⟩
  ·
   replace h := h.2 a8
   refine W_exit ?_
   refine then_exit ?_
   clear k15 K15
   refine then_exit ?_
   refine block_exit ?_
   refine then_n ?_
   exact ⟨_, rfl, ⟨aj, aq, ar, _, _, rfl, h, hI, aa, ab, a7, trivial⟩, trivial⟩
 ·
  simp only [e_, Nat.reduceAdd, Nat.reduceBEq] at b_
  subst b_
  clear h
  rintro _ dh ⟨am, aw, ax, di, dj, rfl, bu, bv, aa, ab, b5, -⟩
  replace hI := bv
  clear bv
  have h := a6 am bu
  clear a6 bu
  refine W_seq_k fun K34 k34 => ?_
  refine W_region [38, 4] rfl (Ops_step (R_move rfl) rfl rfl (Ops_step (R_assign rfl) rfl rfl ?_))
  refine Ops_nil ?_
  refine then_n (k34 _ _ ?_)
  clear k34 K34
  refine W_ret ?_
  refine ⟨_, ⟨_, _, rfl, rfl, rfl⟩, ?_⟩
  exact ⟨aw, ax, am, _, _, rfl, hI, (b5.hl (Le.no _)), h⟩

theorem octet_PutBytes_ok {G : Gh} {w : World} (hS : St G w) (hg : GL G) {A0 : Option Addr} {c0 : Nat} {x0 : List UInt8} (hc0 : x0.length ≤ c0) (hs0 : Sl G A0 x0) {A1 : Option Addr} {c1 : Nat} {x1 : List UInt8} (hc1 : x1.length ≤ c1) (hs1 : Sl G A1 x1) {Q : (List UInt8) → Prop} (h : octet_PutBytes x0 x1 Q) : Calls Try.prog 65 #[.slice A0 x0.length c0, .slice A1 x1.length c1] w fun e w2 => ∃ (A0 : Option Addr) (c0 : Nat) (r0 : List UInt8) (L H : Gh), e = .returned (.slice A0 r0.length c0) ∧ Inv [] G w L H w2 ∧ OwnS w.heap.size 5 L H w2 A0 c0 r0 ∧ Q r0 := by
 unfold octet_PutBytes at h
 have hI := Inv.start (M := []) hS
 refine calls_W 12 Try.func65 rfl Try.ntmps65 rfl [.tmp 4] rfl ?_
 refine W_seq_k fun K1 k1 => ?_
 refine W_region [4] rfl (Ops_step (R_assign rfl) rfl rfl ?_)
 refine Ops_nil ?_
 refine then_n (k1 _ _ ?_)
 clear k1 K1
 refine W_seq_k fun K2 k2 => ?_
 refine W_region [5, 6, 7, 8, 9, 10, 11, 4] rfl (Ops_step (R_move rfl) rfl rfl (Ops_step (R_move rfl) rfl rfl (Ops_step (R_len Try.underlying29 rfl rfl) rfl rfl ?_)))
 refine Ops_to (R_buildSlice el116 zr3 (by decide) (by decide) rfl rfl) rfl rfl ?_
 rintro _ a5 ⟨au, rfl, aj, ad, ae⟩
 have ak : OwnS w.heap.size 3 Gh.no G _ (some ⟨au, 0, none⟩) 1 ([(x1.length : Int)] : List Int) := OwnS.ofBlk hI.st aj ad (all2_sc' _) rfl (by have := hI.size; omega) (by show 1 ≤ maxLen; decide)
 replace hI := hI.fr0 ae
 clear ae ad
 refine Exists.elim (ak.lend hI.st (Le.no _)) fun al aa => ?_
 refine Ops_call (C_func bd64 rfl) rfl rfl ?_
 refine (octet_Put_ok (x0 := x0) (x1 := ([(x1.length : Int)] : List Int)) aa.1 (hg.up (hI.le.trans aa.2.1)) hc0 (hs0.up aa.2.1) (Nat.le_refl _) aa.2.2 h).mono ?_
 rintro _ a6 ⟨av, aw, af, a7, a8, rfl, ag, ab, h⟩
 refine Exists.elim (hI.callB aa.2.1 ag (by simp)) fun ax ac => Exists.elim ac fun ay ac => ?_
 have am := hI.size
 replace hI := ac.1
 have ar := ac.2.1
 have an := ac.2.2.1
 have ao := ac.2.2.2
 clear ac
 replace hs1 := hs1.up ar.hh
 replace ab := OwnS.backS ab am ao
 clear ag ar an
 refine ⟨_, rfl, ?_⟩
 refine Ops_step (R_move rfl) rfl rfl ?_
 have ap := h.1
 replace h := h.2
 refine Ops_to (X_append (α := UInt8) (xs := af) (ys := x1) el29 rfl rfl ab (Srcs.sc (Srcs.ofSl Try.underlying29 hs1 hI.st (by decide))) hI.st ap (by decide) hI.size) rfl rfl ?_
 rintro _ a9 ⟨az, a4, rfl, aq, ah, ai⟩
 clear ai
 replace hI := hI.tok ah ab.out (ab.new (Nat.le_refl _))
 clear ah ab
 refine Ops_step (R_assign rfl) rfl rfl ?_
 refine Ops_nil ?_
 refine then_n (k2 _ _ ?_)
 clear k2 K2
 refine W_keepB [4] fun B_ b_ => ?_
 simp only [e_, Nat.reduceAdd, Nat.reduceBEq] at b_
 subst b_
 refine W_ret ?_
 refine ⟨_, ⟨_, _, rfl, rfl, rfl⟩, ?_⟩
 exact ⟨az, a4, (af ++ x1), _, _, rfl, hI, (aq.hl (Le.no _)), h⟩

theorem octet_Seal_ok {G : Gh} {w : World} (hS : St G w) (hg : GL G) {A0 : Option Addr} {c0 : Nat} {x0 : List UInt8} (hc0 : x0.length ≤ c0) (hs0 : Sl G A0 x0) {Q : (List UInt8) → Int → Prop} (h : octet_Seal x0 Q) : Calls Try.prog 79 #[.slice A0 x0.length c0] w fun e w2 => ∃ (A0 : Option Addr) (c0 : Nat) (r0 : List UInt8) (r1 : Int) (L H : Gh), e = .returned (.tuple #[.slice A0 r0.length c0, vi r1]) ∧ Inv [] G w L H w2 ∧ OwnS w.heap.size 5 L H w2 A0 c0 r0 ∧ Q r0 r1 := by
 unfold octet_Seal at h
 have hI := Inv.start (M := []) hS
 refine calls_W 27 Try.func79 rfl Try.ntmps79 rfl [.tmp 2, .tmp 3] rfl ?_
 refine W_seq_k fun K1 k1 => ?_
 refine W_region [2, 3] rfl (Ops_step (R_assign rfl) rfl rfl (Ops_step (R_assign rfl) rfl rfl ?_))
 refine Ops_nil ?_
 refine then_n (k1 _ _ ?_)
 clear k1 K1
 refine W_seq_k fun K2 k2 => ?_
 refine W_seq_k fun K3 k3 => ?_
 refine W_region [6, 7, 8] rfl (Ops_step (R_move rfl) rfl rfl (Ops_step (R_len Try.underlying29 rfl rfl) rfl rfl (Ops_step (R_gtr rfl rfl) rfl rfl ?_)))
 refine Ops_nil ?_
 refine then_n (k3 _ _ ?_)
 clear k3 K3
 refine W_if rfl (fun ak => ?_) (fun ak => ?_)
 ·
  replace h := h.1 ak
  refine W_seq_k fun K5 k5 => ?_
  refine W_region [2, 3] rfl (Ops_step (R_assign rfl) rfl rfl (Ops_step (R_assign rfl) rfl rfl ?_))
  refine Ops_nil ?_
  refine then_n (k5 _ _ ?_)
  clear k5 K5
  refine W_ret ?_
  refine then_ret ?_
  clear k2 K2
  refine ⟨_, ⟨_, _, rfl, rfl, ⟨_, _, rfl, rfl, rfl⟩⟩, ?_⟩
  exact ⟨none, 0, [], 4, _, _, rfl, hI, OwnS.nil, h⟩
 ·
  replace h := h.2 ak
  refine W_skip ?_
  refine then_n (k2 _ _ ?_)
  clear k2 K2
  refine W_seq_k fun K6 k6 => ?_
  refine W_region [9, 10, 4] rfl (Ops_step (R_move rfl) rfl rfl ?_)
  refine Ops_call (C_func bd65 rfl) rfl rfl ?_
  refine (octet_PutBytes_ok (x0 := []) (x1 := x0) hI.st (hg.up hI.le) (Nat.le_refl 0) Sl.nil hc0 hs0 h).mono ?_
  rintro _ bm ⟨a4, a5, al, bn, bo, rfl, an, ab, h⟩
  refine Exists.elim (hI.call an (by simp)) fun be ay => ?_
  have a6 := hI.size
  replace hI := ay.1
  have bf := ay.2.1
  have a7 := ay.2.2
  clear ay
  replace ab := OwnS.backS ab a6 (Le.refl _)
  clear an bf a7
  refine ⟨_, rfl, ?_⟩
  refine Ops_step (R_assign rfl) rfl rfl ?_
  refine Ops_nil ?_
  refine then_n (k6 _ _ ?_)
  clear k6 K6
  refine W_keepB [4] fun B_ b_ => ?_
  simp only [e_, Nat.reduceAdd, Nat.reduceBEq] at b_
  subst b_
  refine W_seq_k fun K9 k9 => ?_
  refine W_region [11, 12, 5] rfl (Ops_step (R_move rfl) rfl rfl ?_)
  refine Exists.elim (ab.lend hI.st (Le.no _)) fun az ac => ?_
  refine Ops_call (C_func bd89 rfl) rfl rfl ?_
  refine (octet_Sum_ok (x0 := al) ac.1 (hg.up (hI.le.trans ac.2.1)) ab.cap ac.2.2 h).mono ?_
  rintro _ bg ⟨aa, bh, bi, rfl, ag, h⟩
  refine Exists.elim (hI.callB ac.2.1 ag (by simp)) fun ba ae => Exists.elim ae fun ao ae => ?_
  have bc := hI.size
  replace hI := ae.1
  have ap := ae.2.1
  have aq := ae.2.2.1
  have bd := ae.2.2.2
  clear ae
  replace ab := ab.up (Le.refl _) ap (by simp)
  clear ag ap aq
  refine ⟨_, rfl, ?_⟩
  refine Ops_step (R_assign rfl) rfl rfl ?_
  refine Ops_nil ?_
  refine then_n (k9 _ _ ?_)
  clear k9 K9
  refine W_seq_k fun K11 k11 => ?_
  refine W_region [13, 14, 15, 16, 17, 18, 19, 20, 21, 22, 23, 24, 25, 26, 2, 3] rfl (Ops_step (R_move rfl) rfl rfl (Ops_step (R_move rfl) rfl rfl (Ops_step (R_shr rfl rfl (by decide) (shr32 aa 24 (by decide))) rfl rfl (Ops_step (R_conv Try.underlying124 Try.underlying5 rfl (c32_8 _)) rfl rfl ?_))))
  refine Ops_step (R_move rfl) rfl rfl (Ops_step (R_shr rfl rfl (by decide) (shr32 aa 16 (by decide))) rfl rfl (Ops_step (R_conv Try.underlying124 Try.underlying5 rfl (c32_8 _)) rfl rfl (Ops_step (R_move rfl) rfl rfl (Ops_step (R_shr rfl rfl (by decide) (shr32 aa 8 (by decide))) rfl rfl ?_))))
  refine Ops_step (R_conv Try.underlying124 Try.underlying5 rfl (c32_8 _)) rfl rfl (Ops_step (R_move rfl) rfl rfl (Ops_step (R_conv Try.underlying124 Try.underlying5 rfl (c32_8 _)) rfl rfl ?_))
  have ad := ab.lt
  refine Ops_to (R_buildSlice el29 zr5 (by decide) (by decide) rfl rfl) rfl rfl ?_
  rintro _ bj ⟨ar, rfl, au, ah, af⟩
  have av : OwnS w.heap.size 5 Gh.no ao _ (some ⟨ar, 0, none⟩) 4 ([(UInt8.ofBitVec ((aa >>> (24 : Nat)).setWidth 8)), (UInt8.ofBitVec ((aa >>> (16 : Nat)).setWidth 8)), (UInt8.ofBitVec ((aa >>> (8 : Nat)).setWidth 8)), (UInt8.ofBitVec (aa.setWidth 8))] : List UInt8) := OwnS.ofBlk hI.st au ah (all2_sc' _) rfl (by have := hI.size; omega) (by show 4 ≤ maxLen; decide)
  replace hI := hI.fr0 af
  replace ab := ab.fr0 af
  clear af ah
  have ai : ∀ i ∈ bk (some ⟨ar, 0, none⟩) 4, i ∉ bk a4 a5 := sep_new (fun i_ hi_ => by have := (bk_of hi_).1; simp only [blkOf, List.mem_singleton] at this; omega) ad
  have aw := h.1
  replace h := h.2
  refine Ops_to (X_append (α := UInt8) (xs := al) (ys := ([(UInt8.ofBitVec ((aa >>> (24 : Nat)).setWidth 8)), (UInt8.ofBitVec ((aa >>> (16 : Nat)).setWidth 8)), (UInt8.ofBitVec ((aa >>> (8 : Nat)).setWidth 8)), (UInt8.ofBitVec (aa.setWidth 8))] : List UInt8)) el29 rfl rfl ab (Srcs.sc (Srcs.ofOwn Try.underlying29 av (by decide))) hI.st aw (by decide) hI.size) rfl rfl ?_
  rintro _ bl ⟨a8, a9, rfl, ax, aj, am⟩
  clear am
  replace hI := hI.tok aj ab.out (ab.new (Nat.le_refl _))
  clear aj ab
  refine Ops_step (R_assign rfl) rfl rfl (Ops_step (R_assign rfl) rfl rfl ?_)
  refine Ops_nil ?_
  refine then_n (k11 _ _ ?_)
  clear k11 K11
  refine W_keepB [2, 3] fun B_ b_ => ?_
  simp only [e_, Nat.reduceAdd, Nat.reduceBEq] at b_
  subst b_
  refine W_ret ?_
  refine ⟨_, ⟨_, _, rfl, rfl, ⟨_, _, rfl, rfl, rfl⟩⟩, ?_⟩
  exact ⟨a8, a9, (al ++ ([(UInt8.ofBitVec ((aa >>> (24 : Nat)).setWidth 8)), (UInt8.ofBitVec ((aa >>> (16 : Nat)).setWidth 8)), (UInt8.ofBitVec ((aa >>> (8 : Nat)).setWidth 8)), (UInt8.ofBitVec (aa.setWidth 8))] : List UInt8)), 0, _, _, rfl, hI, (ax.hl (Le.no _)), h⟩

theorem journal_seal_ok {G : Gh} {w : World} (hS : St G w) (hg : GL G) {A0 : Option Addr} {c0 : Nat} {x0 : List UInt8} (hc0 : x0.length ≤ c0) (hs0 : Sl G A0 x0) {Q : (List UInt8) → Prop} (h : journal_seal x0 Q) : Calls Try.prog 63 #[.slice A0 x0.length c0] w fun e w2 => ∃ (A0 : Option Addr) (c0 : Nat) (r0 : List UInt8) (L H : Gh), e = .returned (.slice A0 r0.length c0) ∧ Inv [] G w L H w2 ∧ OwnS w.heap.size 5 L H w2 A0 c0 r0 ∧ Q r0 := by
 unfold journal_seal at h
 have hI := Inv.start (M := []) hS
 refine calls_W 11 Try.func63 rfl Try.ntmps63 rfl [.tmp 2] rfl ?_
 refine W_seq_k fun K1 k1 => ?_
 refine W_region [2] rfl (Ops_step (R_assign rfl) rfl rfl ?_)
 refine Ops_nil ?_
 refine then_n (k1 _ _ ?_)
 clear k1 K1
 refine W_seq_k fun K2 k2 => ?_
 refine W_region [6, 7, 5, 8, 9, 3, 4] rfl (Ops_step (R_move rfl) rfl rfl ?_)
 refine Ops_call (C_func bd79 rfl) rfl rfl ?_
 refine (octet_Seal_ok (x0 := x0) hI.st (hg.up hI.le) hc0 hs0 h).mono ?_
 rintro _ al ⟨ab, ac, ad, ag, am, an, rfl, ae, aa, h⟩
 refine Exists.elim (hI.call ae (by simp)) fun aj af => ?_
 have ah := hI.size
 replace hI := af.1
 have ak := af.2.1
 have ai := af.2.2
 clear af
 replace aa := OwnS.backS aa ah (Le.refl _)
 clear ae ak ai
 refine ⟨_, rfl, ?_⟩
 refine Ops_step (R_move rfl) rfl rfl ?_
 refine Ops_step (R_extract (v := .slice ab ad.length ac) rfl rfl) rfl rfl ?_
 refine Ops_step (R_extract (v := vi ag) rfl rfl) rfl rfl ?_
 refine Ops_step (R_assign rfl) rfl rfl (Ops_step (R_assign rfl) rfl rfl ?_)
 refine Ops_nil ?_
 refine then_n (k2 _ _ ?_)
 clear k2 K2
 refine W_keepB [3] fun B_ b_ => ?_
 simp only [e_, Nat.reduceAdd, Nat.reduceBEq] at b_
 subst b_
 refine W_seq_k fun K5 k5 => ?_
 refine W_region [10, 2] rfl (Ops_step (R_move rfl) rfl rfl (Ops_step (R_assign rfl) rfl rfl ?_))
 refine Ops_nil ?_
 refine then_n (k5 _ _ ?_)
 clear k5 K5
 refine W_ret ?_
 refine ⟨_, ⟨_, _, rfl, rfl, rfl⟩, ?_⟩
 exact ⟨ab, ac, ad, _, _, rfl, hI, (aa.hl (Le.no _)), h⟩

theorem journal_head_ok {G : Gh} {w : World} (hS : St G w) (hg : GL G) {x0 : Int} {x1 : Int} {Q : (List UInt8) → Prop} (h : journal_head x0 x1 Q) : Calls Try.prog 40 #[vi x0, vi x1] w fun e w2 => ∃ (A0 : Option Addr) (c0 : Nat) (r0 : List UInt8) (L H : Gh), e = .returned (.slice A0 r0.length c0) ∧ Inv [] G w L H w2 ∧ OwnS w.heap.size 5 L H w2 A0 c0 r0 ∧ Q r0 := by
 unfold journal_head at h
 have hI := Inv.start (M := []) hS
 refine calls_W 10 Try.func40 rfl Try.ntmps40 rfl [.tmp 4] rfl ?_
 refine W_seq_k fun K1 k1 => ?_
 refine W_region [4] rfl (Ops_step (R_assign rfl) rfl rfl ?_)
 refine Ops_nil ?_
 refine then_n (k1 _ _ ?_)
 clear k1 K1
 refine W_seq_k fun K2 k2 => ?_
 refine W_region [5, 6, 7, 8, 9, 4] rfl (Ops_step (R_move rfl) rfl rfl (Ops_step (R_move rfl) rfl rfl ?_))
 refine Ops_to (R_buildSlice el116 zr3 (by decide) (by decide) rfl rfl) rfl rfl ?_
 rintro _ be ⟨a4, rfl, ak, af, ag⟩
 have al : OwnS w.heap.size 3 Gh.no G _ (some ⟨a4, 0, none⟩) 2 ([x0, x1] : List Int) := OwnS.ofBlk hI.st ak af (all2_sc' _) rfl (by have := hI.size; omega) (by show 2 ≤ maxLen; decide)
 replace hI := hI.fr0 ag
 clear ag af
 refine Exists.elim (al.lend hI.st (Le.no _)) fun am aa => ?_
 refine Ops_call (C_func bd64 rfl) rfl rfl ?_
 refine (octet_Put_ok (x0 := []) (x1 := ([x0, x1] : List Int)) aa.1 (hg.up (hI.le.trans aa.2.1)) (Nat.le_refl 0) Sl.nil (Nat.le_refl _) aa.2.2 h).mono ?_
 rintro _ bf ⟨a5, a6, an, bg, bh, rfl, ah, ab, h⟩
 refine Exists.elim (hI.callB aa.2.1 ah (by simp)) fun a7 ad => Exists.elim ad fun a8 ad => ?_
 have ao := hI.size
 replace hI := ad.1
 have a9 := ad.2.1
 have ap := ad.2.2.1
 have aq := ad.2.2.2
 clear ad
 replace ab := OwnS.backS ab ao aq
 clear ah a9 ap
 refine ⟨_, rfl, ?_⟩
 refine Exists.elim (ab.freeze hI) fun bi ae => Exists.elim ae fun bj ae => ?_
 replace hI := ae.1
 have ba := ae.2.1
 have ar := ae.2.2.1 (Le.no _)
 have au := ab.cap
 clear ae ba ab
 refine Ops_call (C_func bd63 rfl) rfl rfl ?_
 refine (journal_seal_ok (x0 := an) hI.st (hg.up hI.le) au (ar.up hI.sub) h).mono ?_
 rintro _ bl ⟨av, aw, ax, bm, bn, rfl, ai, ac, h⟩
 refine Exists.elim (hI.call ai (by simp)) fun bc aj => ?_
 have ay := hI.size
 replace hI := aj.1
 have bd := aj.2.1
 have az := aj.2.2
 clear aj
 replace ac := OwnS.backS ac ay (Le.refl _)
 clear ai bd az
 refine ⟨_, rfl, ?_⟩
 refine Ops_step (R_assign rfl) rfl rfl ?_
 refine Ops_nil ?_
 refine then_n (k2 _ _ ?_)
 clear k2 K2
 refine W_keepB [4] fun B_ b_ => ?_
 simp only [e_, Nat.reduceAdd, Nat.reduceBEq] at b_
 subst b_
 refine W_ret ?_
 refine ⟨_, ⟨_, _, rfl, rfl, rfl⟩, ?_⟩
 exact ⟨av, aw, ax, _, _, rfl, hI, (ac.hl (Le.no _)), h⟩

theorem journal_tell_ok {G : Gh} {w : World} (hS : St G w) (hg : GL G) {x0 : Int} {l1 : List Value} {x1 : journal_record} (hr1 : Rp.cs G x1 l1) {Q : (List UInt8) → Prop} (h : journal_tell x0 x1 Q) : Calls Try.prog 41 #[vi x0, .agg l1.toArray] w fun e w2 => ∃ (A0 : Option Addr) (c0 : Nat) (r0 : List UInt8) (L H : Gh), e = .returned (.slice A0 r0.length c0) ∧ Inv [] G w L H w2 ∧ OwnS w.heap.size 5 L H w2 A0 c0 r0 ∧ Q r0 := by
 unfold journal_tell at h
 have hI := Inv.start (M := []) hS
 refine calls_W 14 Try.func41 rfl Try.ntmps41 rfl [.tmp 4] rfl ?_
 obtain ⟨aq, ar, rfl, ⟨au, af⟩⟩ := hr1
 refine W_seq_k fun K1 k1 => ?_
 refine W_region [3, 4] rfl ?_
 have aj := hI
 refine Ops_to (R_box rfl) rfl rfl ?_
 rintro _ cg ⟨bv, rfl, ak, av, aw⟩
 replace hI := hI.fr0 aw
 have aa : Tok G _ bv 85 ([vi x1.label_, .slice aq x1.data_.length ar]) := ⟨av.to rfl, Out.ge aj.st (Nat.le_of_eq ak.symm)⟩
 have a9 : w.heap.size ≤ bv := ak ▸ aj.size
 clear av ak aj aw
 refine Ops_step (R_assign rfl) rfl rfl ?_
 refine Ops_nil ?_
 refine then_n (k1 _ _ ?_)
 clear k1 K1
 refine W_seq_k fun K3 k3 => ?_
 refine W_drawF [5, 6, 7, 8, 9, 10, 11, 12, 13, 4] [(0, true), (1, true), (2, true), (5, true), (6, true), (3, false), (4, false), (7, false), (8, false), (9, true)] TJtC.hm rfl (by kernel_rfl) fun bw ci ab al => ?_
 replace hI := hI.fr0 al
 replace aa := aa.fr0 al
 clear al
 refine HSp (R_move rfl) rfl rfl (HSp (R_fieldAddr fo85_0 rfl) rfl rfl ?_)
 refine HS_loadB (v := vi x1.label_) ag3 rfl aa.blk rfl rfl rfl ?_
 refine HSp (R_fieldAddr fo85_1 rfl) rfl rfl ?_
 refine HS_loadB (v := .slice aq x1.data_.length ar) ag29 rfl aa.blk rfl rfl rfl ?_
 refine HS_to [6] _ rfl (by rw [ab]; kernel_rfl) (R_buildSlice el116 zr3 (by decide) (by decide) rfl rfl) rfl rfl ?_
 rintro _ cj ⟨b5, rfl, bc, ax, am⟩
 have bd : OwnS w.heap.size 3 Gh.no G _ (some ⟨b5, 0, none⟩) 2 ([x0, x1.label_] : List Int) := OwnS.ofBlk hI.st bc ax (all2_sc' _) rfl (by have := hI.size; omega) (by show 2 ≤ maxLen; decide)
 replace hI := hI.fr0 am
 replace aa := aa.fr0 am
 clear am ax
 refine ⟨⟨(aa.blk.at_ rfl), trivial⟩, ?_⟩
 refine Exists.elim (bd.lend hI.st (Le.no _)) fun be ae => ?_
 refine HS_call [6] _ rfl (by rw [ab]; kernel_rfl) (C_func bd64 rfl) rfl rfl ?_
 refine (octet_Put_ok (x0 := []) (x1 := ([x0, x1.label_] : List Int)) ae.1 (hg.up (hI.le.trans ae.2.1)) (Nat.le_refl 0) Sl.nil (Nat.le_refl _) ae.2.2 h).mono ?_
 rintro _ ck ⟨b6, b7, bf, cl, cm, rfl, ay, ac, h⟩
 refine Exists.elim (hI.callB ae.2.1 ay (by simp)) fun b8 an => Exists.elim an fun b9 an => ?_
 have bg := hI.size
 replace hI := an.1
 have bh := an.2.1
 have bi := an.2.2.1
 have bj := an.2.2.2
 clear an
 replace af := af.up bh.hh
 replace aa := aa.up bh (by simp)
 replace ac := OwnS.backS ac bg bj
 clear ay bh bi
 refine ⟨_, rfl, ⟨(aa.blk.at_ rfl), trivial⟩, ?_⟩
 refine Exists.elim (ac.freeze hI) fun co ao => Exists.elim ao fun cp ao => ?_
 replace hI := ao.1
 have bl := ao.2.1
 have bm := ao.2.2.1 (Le.no _)
 have bn := ac.cap
 replace af := af.up bl.hh
 replace aa := aa.up bl (aa.sep ac (by decide))
 clear ao bl ac
 refine HS_call [] _ rfl (by rw [ab]; kernel_rfl) (C_func bd65 rfl) rfl rfl ?_
 refine (octet_PutBytes_ok (x0 := bf) (x1 := x1.data_) hI.st (hg.up hI.le) bn (bm.up hI.sub) au af h).mono ?_
 rintro _ cq ⟨ca, cb, bo, cr, ct, rfl, az, ad, h⟩
 refine Exists.elim (hI.call az (by simp)) fun cc ba => ?_
 have bp := hI.size
 replace hI := ba.1
 have bx := ba.2.1
 have bq := ba.2.2
 clear ba
 replace aa := aa.up bx (by simp)
 replace ad := OwnS.backS ad bp (Le.refl _)
 clear az bx bq
 refine ⟨_, rfl, trivial, ?_⟩
 refine Exists.elim (ad.freeze hI) fun cu ap => Exists.elim ap fun cv ap => ?_
 replace hI := ap.1
 have bz := ap.2.1
 have br := ap.2.2.1 (Le.no _)
 have bt := ad.cap
 replace aa := aa.up bz (aa.sep ad (by decide))
 clear ap bz ad
 refine HS_call [] _ rfl (by rw [ab]; kernel_rfl) (C_func bd63 rfl) rfl rfl ?_
 refine (journal_seal_ok (x0 := bo) hI.st (hg.up hI.le) bt (br.up hI.sub) h).mono ?_
 rintro _ cd ⟨a4, a5, a6, ce, cf, rfl, ai, ag, h⟩
 refine Exists.elim (hI.call ai (by simp)) fun b4 ah => ?_
 have a7 := hI.size
 replace hI := ah.1
 have bu := ah.2.1
 have a8 := ah.2.2
 clear ah
 replace ag := OwnS.backS ag a7 (Le.refl _)
 clear ai bu a8
 refine ⟨_, rfl, trivial, ?_⟩
 refine HSp (R_assign rfl) rfl rfl ?_
 refine HS_nil ?_
 clear ab
 refine then_n (k3 _ _ ?_)
 clear k3 K3
 refine W_keepB [4] fun B_ b_ => ?_
 simp only [e_, Nat.reduceAdd, Nat.reduceBEq] at b_
 subst b_
 refine W_ret ?_
 refine ⟨_, ⟨_, _, rfl, rfl, rfl⟩, ?_⟩
 exact ⟨a4, a5, a6, _, _, rfl, hI, (ag.hl (Le.no _)), h⟩

theorem disk_Disk_burn_ok {G : Gh} {w : World} (hS : St G w) (hg : GL G) {d0 : Nat} {z0 : disk_Disk} {ab : Option Addr} {ac : Nat} {ad : Option Addr} {ae : Nat} {af : Option Addr} {ag : Nat} (aa : Tok G w d0 53 ([.slice ab z0.files_.e0_.length ac, .slice ad z0.files_.e1_.length ae, .slice af z0.files_.e2_.length ag, vi z0.room_, .bool z0.off_, .bool z0.armed_, vi z0.left_])) (ah : z0.files_.e0_.length ≤ ac) (ai : Sl G ab z0.files_.e0_) (aj : z0.files_.e1_.length ≤ ae) (ak : Sl G ad z0.files_.e1_) (al : z0.files_.e2_.length ≤ ag) (am : Sl G af z0.files_.e2_) {x1 : Int} {Q : Int → disk_Disk → Prop} (h : disk_Disk_burn z0 x1 Q) : Calls Try.prog 50 #[.pointer (some ⟨d0, 0, none⟩), vi x1] w fun e w2 => ∃ (r0 : Int) (y0 : disk_Disk) (an : Option Addr) (ao : Nat) (ap : Option Addr) (aq : Nat) (ar : Option Addr) (au : Nat) (L H : Gh), e = .returned (vi r0) ∧ Inv [d0] G w L H w2 ∧ Tok H w2 d0 53 ([.slice an y0.files_.e0_.length ao, .slice ap y0.files_.e1_.length aq, .slice ar y0.files_.e2_.length au, vi y0.room_, .bool y0.off_, .bool y0.armed_, vi y0.left_]) ∧ y0.files_.e0_.length ≤ ao ∧ Sl H an y0.files_.e0_ ∧ y0.files_.e1_.length ≤ aq ∧ Sl H ap y0.files_.e1_ ∧ y0.files_.e2_.length ≤ au ∧ Sl H ar y0.files_.e2_ ∧ Q r0 y0 := by
 unfold disk_Disk_burn at h
 have hI := Inv.start (M := [d0]) hS
 refine calls_W 42 Try.func50 rfl Try.ntmps50 rfl [.tmp 4] rfl ?_
 have ba := aa.blk.lt
 refine W_seq_k fun K1 k1 => ?_
 refine W_region [4] rfl (Ops_step (R_assign rfl) rfl rfl ?_)
 refine Ops_nil ?_
 refine then_n (k1 _ _ ?_)
 clear k1 K1
 refine W_seq_k fun K2 k2 => ?_
 refine W_block ?_
 refine W_seq_k fun K3 k3 => ?_
 refine W_region [6, 7, 8, 9, 10, 5] rfl (Ops_step (R_move rfl) rfl rfl (Ops_step (R_nilCheck rfl) rfl rfl (Ops_step (R_fieldAddr fo53_3 rfl) rfl rfl ?_)))
 refine Ops_step (R_loadB (v := .bool z0.armed_) ag4 rfl aa.blk rfl) rfl rfl ?_
 refine Ops_step (R_not rfl) rfl rfl (Ops_step (R_assign rfl) rfl rfl ?_)
 refine Ops_nil ?_
 refine then_n (k3 _ _ ?_)
 clear k3 K3
 refine W_keepB [0, 1, 5] fun B_ b_ => ?_
 simp only [e_, Nat.reduceAdd, Nat.reduceBEq] at b_
 subst b_
 refine W_cond rfl (fun a8 => ?_) (fun a8 => ?_)
 ·
  replace h := h.1 a8
  refine W_seq_k fun K6 k6 => ?_
  refine W_region [11, 4] rfl (Ops_step (R_move rfl) rfl rfl (Ops_step (R_assign rfl) rfl rfl ?_))
  refine Ops_nil ?_
  refine then_n (k6 _ _ ?_)
  clear k6 K6
  refine W_ret ?_
  refine block_ret ?_
  refine then_ret ?_
  clear k2 K2
  refine ⟨_, ⟨_, _, rfl, rfl, rfl⟩, ?_⟩
  exact ⟨x1, z0, ab, ac, ad, ae, af, ag, _, _, rfl, hI, aa, ah, ai, aj, ak, al, am, h⟩
 ·
  replace h := h.2 a8
  refine W_seq_k fun K7 k7 => ?_
  refine W_region [13, 14, 15, 16, 17, 18, 12] rfl (Ops_step (R_move rfl) rfl rfl (Ops_step (R_move rfl) rfl rfl (Ops_step (R_nilCheck rfl) rfl rfl (Ops_step (R_fieldAddr fo53_4 rfl) rfl rfl ?_))))
  refine Ops_step (R_loadB (v := vi z0.left_) ag3 rfl aa.blk rfl) rfl rfl ?_
  refine Ops_step (R_lss rfl rfl) rfl rfl (Ops_step (R_assign rfl) rfl rfl ?_)
  refine Ops_nil ?_
  refine then_n (k7 _ _ ?_)
  clear k7 K7
  refine W_keepB [0, 1, 12] fun B_ b_ => ?_
  simp only [e_, Nat.reduceAdd, Nat.reduceBEq] at b_
  subst b_
  refine W_if rfl (fun a9 => ?_) (fun a9 => ?_)
  ·
   replace h := h.1 a9
   refine W_seq_k fun K10 k10 => ?_
   refine W_region [19, 20, 21, 22, 23, 24, 25, 26, none] rfl (Ops_step (R_move rfl) rfl rfl (Ops_step (R_nilCheck rfl) rfl rfl (Ops_step (R_fieldAddr fo53_4 rfl) rfl rfl ?_)))
   refine Ops_step (R_loadB (v := vi z0.left_) ag3 rfl aa.blk rfl) rfl rfl ?_
   refine Ops_step (R_move rfl) rfl rfl ?_
   have av := h.1
   replace h := h.2
   refine Ops_step (R_sub rfl rfl (wI av.1 av.2)) rfl rfl (Ops_step (R_nilCheck rfl) rfl rfl (Ops_step (R_fieldAddr fo53_4 rfl) rfl rfl ?_))
   refine Ops_to0 (R_store sz3 rfl rfl aa.blk (by show 6 < 7; decide) rfl) rfl ?_
   rintro _ bc ⟨aw, ax⟩
   replace hI := hI.tok ax (out1 aa.out) (mem1 (by simp))
   replace aa : Tok G _ d0 53 ([.slice ab z0.files_.e0_.length ac, .slice ad z0.files_.e1_.length ae, .slice af z0.files_.e2_.length ag, vi z0.room_, .bool z0.off_, .bool z0.armed_, vi (z0.left_ - x1)]) := ⟨aw, aa.out⟩
   clear ax aw
   refine Ops_nil ?_
   refine then_n (k10 _ _ ?_)
   clear k10 K10
   refine W_keepB [1] fun B_ b_ => ?_
   simp only [e_, Nat.reduceAdd, Nat.reduceBEq] at b_
   subst b_
   refine W_seq_k fun K14 k14 => ?_
   refine W_region [27, 4] rfl (Ops_step (R_move rfl) rfl rfl (Ops_step (R_assign rfl) rfl rfl ?_))
   refine Ops_nil ?_
   refine then_n (k14 _ _ ?_)
   clear k14 K14
   refine W_ret ?_
   refine block_ret ?_
   refine then_ret ?_
   clear k2 K2
   refine ⟨_, ⟨_, _, rfl, rfl, rfl⟩, ?_⟩
   exact ⟨x1, (disk_Disk.mk z0.files_ z0.room_ z0.off_ z0.armed_ (z0.left_ - x1)), ab, ac, ad, ae, af, ag, _, _, rfl, hI, aa, ah, ai, aj, ak, al, am, h⟩
  ·
   replace h := h.2 a9
   refine W_skip ?_
   refine block_n ?_
   refine then_n (k2 _ _ ?_)
   clear k2 K2
   refine W_seq_k fun K15 k15 => ?_
   refine W_region [28, 29, 30, 31, 1] rfl (Ops_step (R_move rfl) rfl rfl (Ops_step (R_nilCheck rfl) rfl rfl (Ops_step (R_fieldAddr fo53_4 rfl) rfl rfl ?_)))
   refine Ops_step (R_loadB (v := vi z0.left_) ag3 rfl aa.blk rfl) rfl rfl ?_
   refine Ops_step (R_assign rfl) rfl rfl ?_
   refine Ops_nil ?_
   refine then_n (k15 _ _ ?_)
   clear k15 K15
   refine W_seq_k fun K16 k16 => ?_
   refine W_region [32, 33, 34, 35, 36, none, 37, 38, none, 39, 40, none] rfl (Ops_step (R_move rfl) rfl rfl (Ops_step (R_move rfl) rfl rfl (Ops_step (R_move rfl) rfl rfl (Ops_step (R_nilCheck rfl) rfl rfl ?_))))
   refine Ops_step (R_fieldAddr fo53_2 rfl) rfl rfl ?_
   refine Ops_to0 (R_store sz4 rfl rfl aa.blk (by show 4 < 7; decide) rfl) rfl ?_
   rintro _ bd ⟨ay, az⟩
   replace hI := hI.tok az (out1 aa.out) (mem1 (by simp))
   replace aa : Tok G _ d0 53 ([.slice ab z0.files_.e0_.length ac, .slice ad z0.files_.e1_.length ae, .slice af z0.files_.e2_.length ag, vi z0.room_, .bool true, .bool z0.armed_, vi z0.left_]) := ⟨ay, aa.out⟩
   clear az ay
   refine Ops_step (R_nilCheck rfl) rfl rfl (Ops_step (R_fieldAddr fo53_3 rfl) rfl rfl ?_)
   refine Ops_to0 (R_store sz4 rfl rfl aa.blk (by show 5 < 7; decide) rfl) rfl ?_
   rintro _ be ⟨a4, a5⟩
   replace hI := hI.tok a5 (out1 aa.out) (mem1 (by simp))
   replace aa : Tok G _ d0 53 ([.slice ab z0.files_.e0_.length ac, .slice ad z0.files_.e1_.length ae, .slice af z0.files_.e2_.length ag, vi z0.room_, .bool true, .bool false, vi z0.left_]) := ⟨a4, aa.out⟩
   clear a5 a4
   refine Ops_step (R_nilCheck rfl) rfl rfl (Ops_step (R_fieldAddr fo53_4 rfl) rfl rfl ?_)
   refine Ops_to0 (R_store sz3 rfl rfl aa.blk (by show 6 < 7; decide) rfl) rfl ?_
   rintro _ bf ⟨a6, a7⟩
   replace hI := hI.tok a7 (out1 aa.out) (mem1 (by simp))
   replace aa : Tok G _ d0 53 ([.slice ab z0.files_.e0_.length ac, .slice ad z0.files_.e1_.length ae, .slice af z0.files_.e2_.length ag, vi z0.room_, .bool true, .bool false, vi 0]) := ⟨a6, aa.out⟩
   clear a7 a6
   refine Ops_nil ?_
   refine then_n (k16 _ _ ?_)
   clear k16 K16
   refine W_keepB [1] fun B_ b_ => ?_
   simp only [e_, Nat.reduceAdd, Nat.reduceBEq] at b_
   subst b_
   refine W_seq_k fun K21 k21 => ?_
   refine W_region [41, 4] rfl (Ops_step (R_move rfl) rfl rfl (Ops_step (R_assign rfl) rfl rfl ?_))
   refine Ops_nil ?_
   refine then_n (k21 _ _ ?_)
   clear k21 K21
   refine W_ret ?_
   refine ⟨_, ⟨_, _, rfl, rfl, rfl⟩, ?_⟩
   exact ⟨z0.left_, (disk_Disk.mk z0.files_ z0.room_ true false 0), ab, ac, ad, ae, af, ag, _, _, rfl, hI, aa, ah, ai, aj, ak, al, am, h⟩

theorem disk_Disk_done_ok {G : Gh} {w : World} (hS : St G w) (hg : GL G) {d0 : Nat} {z0 : disk_Disk} {aa : Option Addr} {ab : Nat} {ac : Option Addr} {ad : Nat} {ae : Option Addr} {af : Nat} (ah : Tok G w d0 53 ([.slice aa z0.files_.e0_.length ab, .slice ac z0.files_.e1_.length ad, .slice ae z0.files_.e2_.length af, vi z0.room_, .bool z0.off_, .bool z0.armed_, vi z0.left_])) (ai : z0.files_.e0_.length ≤ ab) (aj : Sl G aa z0.files_.e0_) (ak : z0.files_.e1_.length ≤ ad) (al : Sl G ac z0.files_.e1_) (am : z0.files_.e2_.length ≤ af) (an : Sl G ae z0.files_.e2_) {Q : Int → Prop} (h : disk_Disk_done z0 Q) : Calls Try.prog 51 #[.pointer (some ⟨d0, 0, none⟩)] w fun e w2 => ∃ (r0 : Int) (L H : Gh), e = .returned (vi r0) ∧ Inv [] G w L H w2 ∧ Q r0 := by
 unfold disk_Disk_done at h
 have hI := Inv.start (M := []) hS
 refine calls_W 7 Try.func51 rfl Try.ntmps51 rfl [.tmp 2] rfl ?_
 have ao := ah.blk.lt
 refine W_seq_k fun K1 k1 => ?_
 refine W_region [2] rfl (Ops_step (R_assign rfl) rfl rfl ?_)
 refine Ops_nil ?_
 refine then_n (k1 _ _ ?_)
 clear k1 K1
 refine W_seq_k fun K2 k2 => ?_
 refine W_seq_k fun K3 k3 => ?_
 refine W_region [3, 4, 5, 6] rfl (Ops_step (R_move rfl) rfl rfl (Ops_step (R_nilCheck rfl) rfl rfl (Ops_step (R_fieldAddr fo53_2 rfl) rfl rfl ?_)))
 refine Ops_step (R_loadB (v := .bool z0.off_) ag4 rfl ah.blk rfl) rfl rfl ?_
 refine Ops_nil ?_
 refine then_n (k3 _ _ ?_)
 clear k3 K3
 refine W_cond rfl (fun ag => ?_) (fun ag => ?_)
 ·
  replace h := h.1 ag
  refine W_seq_k fun K5 k5 => ?_
  refine W_region [2] rfl (Ops_step (R_assign rfl) rfl rfl ?_)
  refine Ops_nil ?_
  refine then_n (k5 _ _ ?_)
  clear k5 K5
  refine W_ret ?_
  refine then_ret ?_
  clear k2 K2
  refine ⟨_, ⟨_, _, rfl, rfl, rfl⟩, ?_⟩
  exact ⟨50, _, _, rfl, hI, h⟩
 ·
  replace h := h.2 ag
  refine W_skip ?_
  refine then_n (k2 _ _ ?_)
  clear k2 K2
  refine W_keepB [] fun B_ b_ => ?_
  simp only [e_, Nat.reduceAdd, Nat.reduceBEq] at b_
  subst b_
  refine W_seq_k fun K7 k7 => ?_
  refine W_region [2] rfl (Ops_step (R_assign rfl) rfl rfl ?_)
  refine Ops_nil ?_
  refine then_n (k7 _ _ ?_)
  clear k7 K7
  refine W_ret ?_
  refine ⟨_, ⟨_, _, rfl, rfl, rfl⟩, ?_⟩
  exact ⟨0, _, _, rfl, hI, h⟩

theorem disk_Disk_Wipe_ok {G : Gh} {w : World} (hS : St G w) (hg : GL G) {d0 : Nat} {z0 : disk_Disk} {bl : Option Addr} {bm : Nat} {bn : Option Addr} {bo : Nat} {bp : Option Addr} {bq : Nat} (bf : Tok G w d0 53 ([.slice bl z0.files_.e0_.length bm, .slice bn z0.files_.e1_.length bo, .slice bp z0.files_.e2_.length bq, vi z0.room_, .bool z0.off_, .bool z0.armed_, vi z0.left_])) (bg : z0.files_.e0_.length ≤ bm) (am : Sl G bl z0.files_.e0_) (bh : z0.files_.e1_.length ≤ bo) (an : Sl G bn z0.files_.e1_) (bi : z0.files_.e2_.length ≤ bq) (ao : Sl G bp z0.files_.e2_) {x1 : Int} {Q : Int → disk_Disk → Prop} (h : disk_Disk_Wipe z0 x1 Q) : Calls Try.prog 42 #[.pointer (some ⟨d0, 0, none⟩), vi x1] w fun e w2 => ∃ (r0 : Int) (y0 : disk_Disk) (bx : Option Addr) (bz : Nat) (b4 : Option Addr) (b5 : Nat) (b6 : Option Addr) (b7 : Nat) (L H : Gh), e = .returned (vi r0) ∧ Inv [d0] G w L H w2 ∧ Tok H w2 d0 53 ([.slice bx y0.files_.e0_.length bz, .slice b4 y0.files_.e1_.length b5, .slice b6 y0.files_.e2_.length b7, vi y0.room_, .bool y0.off_, .bool y0.armed_, vi y0.left_]) ∧ y0.files_.e0_.length ≤ bz ∧ Sl H bx y0.files_.e0_ ∧ y0.files_.e1_.length ≤ b5 ∧ Sl H b4 y0.files_.e1_ ∧ y0.files_.e2_.length ≤ b7 ∧ Sl H b6 y0.files_.e2_ ∧ Q r0 y0 := by
 unfold disk_Disk_Wipe at h
 have hI := Inv.start (M := [d0]) hS
 refine calls_W 22 Try.func42 rfl Try.ntmps42 rfl [.tmp 4] rfl ?_
 have cv := bf.blk.lt
 refine W_seq_k fun K1 k1 => ?_
 refine W_region [4] rfl (Ops_step (R_assign rfl) rfl rfl ?_)
 refine Ops_nil ?_
 refine then_n (k1 _ _ ?_)
 clear k1 K1
 refine W_seq_k fun K2 k2 => ?_
 refine W_seq_k fun K3 k3 => ?_
 refine W_region [6, 7, 8, 5] rfl (Ops_step (R_move rfl) rfl rfl (Ops_step (R_move rfl) rfl rfl ?_))
 refine Ops_call (C_func bd48 rfl) rfl rfl ?_
 refine (disk_Disk_able_ok (x1 := x1) (z0 := z0) hI.st (hg.up hI.le) bf bg am bh an bi ao h).mono ?_
 rintro _ dm ⟨cw, dn, cz, rfl, cl, h⟩
 refine Exists.elim (hI.call cl (by simp)) fun cm cu => ?_
 have da := hI.size
 replace hI := cu.1
 have co := cu.2.1
 have cx := cu.2.2
 clear cu
 replace am := am.up co.hh
 replace an := an.up co.hh
 replace ao := ao.up co.hh
 replace bf := bf.up co (by simp)
 clear cl co cx
 refine ⟨_, rfl, ?_⟩
 refine Ops_step (R_assign rfl) rfl rfl ?_
 refine Ops_nil ?_
 refine then_n (k3 _ _ ?_)
 clear k3 K3
 refine W_seq_k fun K5 k5 => ?_
 refine W_region [9, 10] rfl (Ops_step (R_move rfl) rfl rfl (Ops_step (R_neq rfl rfl) rfl rfl ?_))
 refine Ops_nil ?_
 refine then_n (k5 _ _ ?_)
 clear k5 K5
 refine W_if rfl (fun cj => ?_) (fun cj => ?_)
 ·
  replace h := h.1 cj
  refine W_seq_k fun K7 k7 => ?_
  refine W_region [11, 4] rfl (Ops_step (R_move rfl) rfl rfl (Ops_step (R_assign rfl) rfl rfl ?_))
  refine Ops_nil ?_
  refine then_n (k7 _ _ ?_)
  clear k7 K7
  refine W_keepB [4] fun B_ b_ => ?_
  simp only [e_, Nat.reduceAdd, Nat.reduceBEq] at b_
  subst b_
  refine W_ret ?_
  refine then_ret ?_
  clear k2 K2
  refine ⟨_, ⟨_, _, rfl, rfl, rfl⟩, ?_⟩
  exact ⟨cw, z0, bl, bm, bn, bo, bp, bq, _, _, rfl, hI, bf, bg, am, bh, an, bi, ao, h⟩
 ·
  replace h := h.2 cj
  refine W_skip ?_
  refine then_n (k2 _ _ ?_)
  clear k2 K2
  refine W_keepB [0, 1] fun B_ b_ => ?_
  simp only [e_, Nat.reduceAdd, Nat.reduceBEq] at b_
  subst b_
  refine ex_ h fun cy br h => ?_
  refine W_seq_join [0] [] (fun vals_ w2 => ∃ (ac : disk_Disk) (ar : Option Addr) (au : Nat) (av : Option Addr) (aw : Nat) (ax : Option Addr) (ay : Nat) (L H : Gh), vals_ = [] ∧ cy ac ∧ Inv [d0] G w L H w2 ∧ Le cm L ∧ Le cz H ∧ Tok H w2 d0 53 ([.slice ar ac.files_.e0_.length au, .slice av ac.files_.e1_.length aw, .slice ax ac.files_.e2_.length ay, vi ac.room_, .bool ac.off_, .bool ac.armed_, vi ac.left_]) ∧ ac.files_.e0_.length ≤ au ∧ Sl H ar ac.files_.e0_ ∧ ac.files_.e1_.length ≤ aw ∧ Sl H av ac.files_.e1_ ∧ ac.files_.e2_.length ≤ ay ∧ Sl H ax ac.files_.e2_ ∧ True) (fun B_ b_ => ?_) (fun B_ b_ => ?_)
  ·
   simp only [e_, Nat.reduceAdd, Nat.reduceBEq] at b_
   subst b_
   clear br
   have ap := Le.refl cm
   have aq := Le.refl cz
   refine W_seq_k fun K11 k11 => ?_
   refine W_region [12, 13, 14] rfl (Ops_step (R_move rfl) rfl rfl ?_)
   refine Ops_call (C_func bd50 rfl) rfl rfl ?_
   refine (disk_Disk_burn_ok (x1 := 1) (z0 := z0) hI.st (hg.up hI.le) bf bg am bh an bi ao h).mono ?_
   rintro _ db ⟨c5, aa, ad, ae, af, ag, ah, ai, dc, ck, rfl, b8, ab, az, a4, a5, a6, a7, a8, h⟩
   refine Exists.elim (hI.call b8 (mem1 (by simp))) fun c6 bv => ?_
   have c7 := hI.size
   replace hI := bv.1
   have bj := bv.2.1
   have cp := bv.2.2
   clear bv
   replace am := am.up bj.hh
   replace an := an.up bj.hh
   replace ao := ao.up bj.hh
   replace ap := ap.trans bj.ll
   replace aq := aq.trans bj.hh
   clear bf
   clear b8 bj cp
   refine ⟨_, rfl, ?_⟩
   refine Ops_step (R_eql rfl rfl) rfl rfl ?_
   refine Ops_nil ?_
   refine then_n (k11 _ _ ?_)
   clear k11 K11
   refine W_if rfl (fun bt => ?_) (fun bt => ?_)
   ·
    replace h := h.1 bt
    refine W_region [15, 16, 17, 18, 19, none] rfl (Ops_step (R_move rfl) rfl rfl (Ops_step (R_move rfl) rfl rfl (Ops_step (R_nilCheck rfl) rfl rfl (Ops_step (R_fieldAddr fo53_0 rfl) rfl rfl ?_))))
    have cq := h.1
    replace h := h.2
    refine split3 cq (fun a9 => ?_) (fun a9 => ?_) (fun a9 => ?_)
    ·
     replace h := h.1 a9
     refine Ops_step (R_indexArrK Try.underlying51 sz29 rfl rfl a9 (by decide)) rfl rfl ?_
     refine Ops_to0 (R_store sz29 rfl rfl ab.blk (by show 0 < 7; decide) rfl) rfl ?_
     rintro _ dd ⟨b9, ca⟩
     replace hI := hI.tok ca (out1 ab.out) (mem1 (by simp))
     replace ab : Tok ck _ d0 53 ([.slice none 0 0, .slice af aa.files_.e1_.length ag, .slice ah aa.files_.e2_.length ai, vi aa.room_, .bool aa.off_, .bool aa.armed_, vi aa.left_]) := ⟨b9, ab.out⟩
     clear ca b9
     refine Ops_nil ?_
     refine then_n ?_
     exact ⟨_, rfl, ⟨(disk_Disk.mk (arr3_List_UInt8.mk [] aa.files_.e1_ aa.files_.e2_) aa.room_ aa.off_ aa.armed_ aa.left_), none, 0, af, ag, ah, ai, _, _, rfl, h, hI, ap, aq, ab, (Nat.le_refl 0), Sl.nil, a5, a6, a7, a8, trivial⟩, ⟨rfl, trivial⟩⟩
    ·
     replace h := h.2.1 a9
     refine Ops_step (R_indexArrK Try.underlying51 sz29 rfl rfl a9 (by decide)) rfl rfl ?_
     refine Ops_to0 (R_store sz29 rfl rfl ab.blk (by show 1 < 7; decide) rfl) rfl ?_
     rintro _ de ⟨cb, cc⟩
     replace hI := hI.tok cc (out1 ab.out) (mem1 (by simp))
     replace ab : Tok ck _ d0 53 ([.slice ad aa.files_.e0_.length ae, .slice none 0 0, .slice ah aa.files_.e2_.length ai, vi aa.room_, .bool aa.off_, .bool aa.armed_, vi aa.left_]) := ⟨cb, ab.out⟩
     clear cc cb
     refine Ops_nil ?_
     refine then_n ?_
     exact ⟨_, rfl, ⟨(disk_Disk.mk (arr3_List_UInt8.mk aa.files_.e0_ [] aa.files_.e2_) aa.room_ aa.off_ aa.armed_ aa.left_), ad, ae, none, 0, ah, ai, _, _, rfl, h, hI, ap, aq, ab, az, a4, (Nat.le_refl 0), Sl.nil, a7, a8, trivial⟩, ⟨rfl, trivial⟩⟩
    ·
     replace h := h.2.2 a9
     refine Ops_step (R_indexArrK Try.underlying51 sz29 rfl rfl a9 (by decide)) rfl rfl ?_
     refine Ops_to0 (R_store sz29 rfl rfl ab.blk (by show 2 < 7; decide) rfl) rfl ?_
     rintro _ df ⟨cd, ce⟩
     replace hI := hI.tok ce (out1 ab.out) (mem1 (by simp))
     replace ab : Tok ck _ d0 53 ([.slice ad aa.files_.e0_.length ae, .slice af aa.files_.e1_.length ag, .slice none 0 0, vi aa.room_, .bool aa.off_, .bool aa.armed_, vi aa.left_]) := ⟨cd, ab.out⟩
     clear ce cd
     refine Ops_nil ?_
     refine then_n ?_
     exact ⟨_, rfl, ⟨(disk_Disk.mk (arr3_List_UInt8.mk aa.files_.e0_ aa.files_.e1_ []) aa.room_ aa.off_ aa.armed_ aa.left_), ad, ae, af, ag, none, 0, _, _, rfl, h, hI, ap, aq, ab, az, a4, a5, a6, (Nat.le_refl 0), Sl.nil, trivial⟩, ⟨rfl, trivial⟩⟩
   ·
    replace h := h.2 bt
    refine W_skip ?_
    refine then_n ?_
    exact ⟨_, rfl, ⟨aa, ad, ae, af, ag, ah, ai, _, _, rfl, h, hI, ap, aq, ab, az, a4, a5, a6, a7, a8, trivial⟩, ⟨rfl, trivial⟩⟩
  ·
   simp only [e_, Nat.reduceAdd, Nat.reduceBEq] at b_
   subst b_
   clear h
   rintro _ dg ⟨ac, ar, au, av, aw, ax, ay, dh, di, rfl, cf, cg, ap, aq, ba, bc, aj, bd, ak, be, al, -⟩
   replace hI := cg
   clear cg
   have h := br ac cf
   clear br cf
   refine W_seq_k fun K18 k18 => ?_
   refine W_region [20, 21, 4] rfl (Ops_step (R_move rfl) rfl rfl ?_)
   refine Ops_call (C_func bd51 rfl) rfl rfl ?_
   refine (disk_Disk_done_ok (z0 := ac) hI.st (hg.up hI.le) ba bc aj bd ak be al h).mono ?_
   rintro _ dj ⟨cr, dk, dl, rfl, ci, h⟩
   refine Exists.elim (hI.call ci (by simp)) fun c8 bw => ?_
   have c9 := hI.size
   replace hI := bw.1
   have bu := bw.2.1
   have ct := bw.2.2
   clear bw
   replace ba := ba.up bu (by simp)
   replace aj := aj.up bu.hh
   replace ak := ak.up bu.hh
   replace al := al.up bu.hh
   clear ci bu ct
   refine ⟨_, rfl, ?_⟩
   refine Ops_step (R_assign rfl) rfl rfl ?_
   refine Ops_nil ?_
   refine then_n (k18 _ _ ?_)
   clear k18 K18
   refine W_ret ?_
   refine ⟨_, ⟨_, _, rfl, rfl, rfl⟩, ?_⟩
   exact ⟨cr, ac, ar, au, av, aw, ax, ay, _, _, rfl, hI, ba, bc, aj, bd, ak, be, al, h⟩

theorem disk_Disk_Used_ok {G : Gh} {w : World} (hS : St G w) (hg : GL G) {d0 : Nat} {z0 : disk_Disk} {aj : Option Addr} {ak : Nat} {al : Option Addr} {am : Nat} {an : Option Addr} {ao : Nat} (ab : Tok G w d0 53 ([.slice aj z0.files_.e0_.length ak, .slice al z0.files_.e1_.length am, .slice an z0.files_.e2_.length ao, vi z0.room_, .bool z0.off_, .bool z0.armed_, vi z0.left_])) (bd : z0.files_.e0_.length ≤ ak) (af : Sl G aj z0.files_.e0_) (be : z0.files_.e1_.length ≤ am) (ag : Sl G al z0.files_.e1_) (bf : z0.files_.e2_.length ≤ ao) (ah : Sl G an z0.files_.e2_) {Q : Int → Prop} (h : disk_Disk_Used z0 Q) : Calls Try.prog 49 #[.pointer (some ⟨d0, 0, none⟩)] w fun e w2 => ∃ (r0 : Int) (L H : Gh), e = .returned (vi r0) ∧ Inv [] G w L H w2 ∧ Q r0 := by
 unfold disk_Disk_Used at h
 have hI := Inv.start (M := []) hS
 refine calls_W 21 Try.func49 rfl Try.ntmps49 rfl [.tmp 2] rfl ?_
 have bg := ab.blk.lt
 refine W_seq_k fun K1 k1 => ?_
 refine W_region [2] rfl (Ops_step (R_assign rfl) rfl rfl ?_)
 refine Ops_nil ?_
 refine then_n (k1 _ _ ?_)
 clear k1 K1
 refine W_seq_k fun K2 k2 => ?_
 refine W_seq_k fun K3 k3 => ?_
 refine W_region [6, 7] rfl (Ops_step (R_move rfl) rfl rfl (Ops_step (R_ptrNil Try.underlying25 rfl rfl) rfl rfl ?_))
 refine Ops_nil ?_
 refine then_n (k3 _ _ ?_)
 clear k3 K3
 refine W_cond_false rfl ?_
 refine W_skip ?_
 refine then_n (k2 _ _ ?_)
 clear k2 K2
 refine W_seq_k fun K4 k4 => ?_
 refine W_region [3] rfl (Ops_step (R_assign rfl) rfl rfl ?_)
 refine Ops_nil ?_
 refine then_n (k4 _ _ ?_)
 clear k4 K4
 refine ex_ h fun bi a5 h => ?_
 refine W_seq_join [] [3] (fun vals_ w2 => ∃ (ar : Int) (L H : Gh), vals_ = [vi ar] ∧ bi ar ∧ Inv [] G w L H w2 ∧ Le Gh.no L ∧ Le G H ∧ Tok H w2 d0 53 ([.slice aj z0.files_.e0_.length ak, .slice al z0.files_.e1_.length am, .slice an z0.files_.e2_.length ao, vi z0.room_, .bool z0.off_, .bool z0.armed_, vi z0.left_]) ∧ True) (fun B_ b_ => ?_) (fun B_ b_ => ?_)
 ·
  simp only [e_, Nat.reduceAdd, Nat.reduceBEq] at b_
  subst b_
  clear a5
  have ap := Le.refl Gh.no
  have ac := Le.refl G
  refine W_seq_k fun K6 k6 => ?_
  refine W_region [8, 9, 10, 11, 12] rfl (Ops_step (R_move rfl) rfl rfl (Ops_step (R_nilCheck rfl) rfl rfl (Ops_step (R_fieldAddr fo53_0 rfl) rfl rfl (Ops_step (R_loadN ag51 sz51 rfl ab.blk (Nat.le_of_ble_eq_true rfl)) rfl rfl ?_))))
  refine Ops_step (R_move rfl) rfl rfl ?_
  refine Ops_nil ?_
  refine then_n (k6 _ _ ?_)
  clear k6 K6
  refine W_keepB [3, 11, 12] fun B_ b_ => ?_
  simp only [e_, Nat.reduceAdd, Nat.reduceBEq] at b_
  subst b_
  refine W_block ?_
  refine Exists.elim h fun bj h => Exists.elim h fun bl h => ?_
  have bh := h.1
  have a6 := h.2
  clear h
  refine W_loopB [11] [3, 12] (fun m vals_ w2 => ∃ (ai : Int) (ad : Int) (L H : Gh), vals_ = [vi ai, vi ad] ∧ bj m ai ad ∧ Inv [] G w L H w2 ∧ Le Gh.no L ∧ Le G H ∧ Tok H w2 d0 53 ([.slice aj z0.files_.e0_.length ak, .slice al z0.files_.e1_.length am, .slice an z0.files_.e2_.length ao, vi z0.room_, .bool z0.off_, .bool z0.armed_, vi z0.left_]) ∧ True) bl _ rfl ⟨0, 0, _, _, rfl, bh, hI, Le.refl _, Le.refl _, ab, trivial⟩ fun B_ b_ => ?_
  clear bh
  simp only [e_, Nat.reduceAdd, Nat.reduceBEq] at b_
  subst b_
  clear ab
  rintro bm _ bn ⟨ai, ad, bo, bp, rfl, a7, a8, aq, ae, ab, -⟩
  replace hI := a8
  clear a8
  have h := a6 bm ai ad a7
  clear a6 a7
  replace af := af.up ae
  replace ag := ag.up ae
  replace ah := ah.up ae
  replace ap := ap.trans aq
  replace ac := ac.trans ae
  refine W_seq_k fun K9 k9 => ?_
  refine W_region [13] rfl (Ops_step (R_lss rfl rfl) rfl rfl ?_)
  refine Ops_nil ?_
  refine then_n (k9 _ _ ?_)
  clear k9 K9
  refine W_seq_k fun K10 k10 => ?_
  refine W_if rfl (fun au => ?_) (fun au => ?_)
  ·
   replace h := h.1 au
   refine W_skip ?_
   refine then_n (k10 _ _ ?_)
   clear k10 K10
   refine W_seq_k fun K12 k12 => ?_
   refine W_block ?_
   refine W_seq_k fun K13 k13 => ?_
   refine W_region [14, 5] rfl ?_
   have a9 := h.1
   replace h := h.2
   refine split3 a9 (fun aa => ?_) (fun aa => ?_) (fun aa => ?_)
   ·
    replace h := h.1 aa
    refine Ops_step (R_indexK Try.underlying51 sz29 ag29 rfl rfl aa (by decide) rfl) rfl rfl (Ops_step (R_assign rfl) rfl rfl ?_)
    refine Ops_nil ?_
    refine then_n (k13 _ _ ?_)
    clear k13 K13
    refine W_region [15, 16, 17, 18, 3] rfl (Ops_step (R_move rfl) rfl rfl (Ops_step (R_move rfl) rfl rfl (Ops_step (R_len Try.underlying29 rfl rfl) rfl rfl ?_)))
    have av := h.1
    replace h := h.2
    refine Ops_step (R_add rfl rfl (wI av.1 av.2)) rfl rfl (Ops_step (R_assign rfl) rfl rfl ?_)
    refine Ops_nil ?_
    refine block_n ?_
    refine then_n (k12 _ _ ?_)
    clear k12 K12
    refine W_keepB [3, 11, 12] fun B_ b_ => ?_
    simp only [e_, Nat.reduceAdd, Nat.reduceBEq] at b_
    subst b_
    refine W_region [19, 12] rfl ?_
    have aw := h.1
    replace h := h.2
    refine Ops_step (R_add rfl rfl (wI aw.1 aw.2)) rfl rfl (Ops_step (R_move rfl) rfl rfl ?_)
    refine Ops_nil ?_
    refine then_n ?_
    exact h.elim fun m_ h => ⟨m_, _, h.1, rfl, ⟨(ai + (z0.files_.e0_.length : Int)), (ad + 1), _, _, rfl, h.2, hI, aq, ae, ab, trivial⟩, ⟨rfl, trivial⟩⟩
   ·
    replace h := h.2.1 aa
    refine Ops_step (R_indexK Try.underlying51 sz29 ag29 rfl rfl aa (by decide) rfl) rfl rfl (Ops_step (R_assign rfl) rfl rfl ?_)
    refine Ops_nil ?_
    refine then_n (k13 _ _ ?_)
    clear k13 K13
    refine W_region [15, 16, 17, 18, 3] rfl (Ops_step (R_move rfl) rfl rfl (Ops_step (R_move rfl) rfl rfl (Ops_step (R_len Try.underlying29 rfl rfl) rfl rfl ?_)))
    have ax := h.1
    replace h := h.2
    refine Ops_step (R_add rfl rfl (wI ax.1 ax.2)) rfl rfl (Ops_step (R_assign rfl) rfl rfl ?_)
    refine Ops_nil ?_
    refine block_n ?_
    refine then_n (k12 _ _ ?_)
    clear k12 K12
    refine W_keepB [3, 11, 12] fun B_ b_ => ?_
    simp only [e_, Nat.reduceAdd, Nat.reduceBEq] at b_
    subst b_
    refine W_region [19, 12] rfl ?_
    have ay := h.1
    replace h := h.2
    refine Ops_step (R_add rfl rfl (wI ay.1 ay.2)) rfl rfl (Ops_step (R_move rfl) rfl rfl ?_)
    refine Ops_nil ?_
    refine then_n ?_
    exact h.elim fun m_ h => ⟨m_, _, h.1, rfl, ⟨(ai + (z0.files_.e1_.length : Int)), (ad + 1), _, _, rfl, h.2, hI, aq, ae, ab, trivial⟩, ⟨rfl, trivial⟩⟩
   ·
    replace h := h.2.2 aa
    refine Ops_step (R_indexK Try.underlying51 sz29 ag29 rfl rfl aa (by decide) rfl) rfl rfl (Ops_step (R_assign rfl) rfl rfl ?_)
    refine Ops_nil ?_
    refine then_n (k13 _ _ ?_)
    clear k13 K13
    refine W_region [15, 16, 17, 18, 3] rfl (Ops_step (R_move rfl) rfl rfl (Ops_step (R_move rfl) rfl rfl (Ops_step (R_len Try.underlying29 rfl rfl) rfl rfl ?_)))
    have az := h.1
    replace h := h.2
    refine Ops_step (R_add rfl rfl (wI az.1 az.2)) rfl rfl (Ops_step (R_assign rfl) rfl rfl ?_)
    refine Ops_nil ?_
    refine block_n ?_
    refine then_n (k12 _ _ ?_)
    clear k12 K12
    refine W_keepB [3, 11, 12] fun B_ b_ => ?_
    simp only [e_, Nat.reduceAdd, Nat.reduceBEq] at b_
    subst b_
    refine W_region [19, 12] rfl ?_
    have a4 := h.1
    replace h := h.2
    refine Ops_step (R_add rfl rfl (wI a4.1 a4.2)) rfl rfl (Ops_step (R_move rfl) rfl rfl ?_)
    refine Ops_nil ?_
    refine then_n ?_
    exact h.elim fun m_ h => ⟨m_, _, h.1, rfl, ⟨(ai + (z0.files_.e2_.length : Int)), (ad + 1), _, _, rfl, h.2, hI, aq, ae, ab, trivial⟩, ⟨rfl, trivial⟩⟩
  ·
   replace h := h.2 au
   refine W_exit ?_
   refine then_exit ?_
   clear k10 K10
   refine then_exit ?_
   refine block_exit ?_
   refine then_n ?_
   exact ⟨_, rfl, ⟨ai, _, _, rfl, h, hI, ap, ac, ab, trivial⟩, trivial⟩
 ·
  simp only [e_, Nat.reduceAdd, Nat.reduceBEq] at b_
  subst b_
  clear h
  clear ab
  rintro _ bq ⟨ar, br, bt, rfl, ba, bc, ap, ac, ab, -⟩
  replace hI := bc
  clear bc
  have h := a5 ar ba
  clear a5 ba
  replace af := af.up ac
  replace ag := ag.up ac
  replace ah := ah.up ac
  refine W_seq_k fun K24 k24 => ?_
  refine W_region [20, 2] rfl (Ops_step (R_move rfl) rfl rfl (Ops_step (R_assign rfl) rfl rfl ?_))
  refine Ops_nil ?_
  refine then_n (k24 _ _ ?_)
  clear k24 K24
  refine W_ret ?_
  refine ⟨_, ⟨_, _, rfl, rfl, rfl⟩, ?_⟩
  exact ⟨ar, _, _, rfl, hI, h⟩

theorem disk_Disk_Append_ok {G : Gh} {w : World} (hS : St G w) (hg : GL G) {d0 : Nat} {z0 : disk_Disk} {bd : Option Addr} {be : Nat} {bf : Option Addr} {bg : Nat} {bh : Option Addr} {bi : Nat} (ap : Tok G w d0 53 ([.slice bd z0.files_.e0_.length be, .slice bf z0.files_.e1_.length bg, .slice bh z0.files_.e2_.length bi, vi z0.room_, .bool z0.off_, .bool z0.armed_, vi z0.left_])) (aq : z0.files_.e0_.length ≤ be) (aa : Sl G bd z0.files_.e0_) (ar : z0.files_.e1_.length ≤ bg) (ab : Sl G bf z0.files_.e1_) (au : z0.files_.e2_.length ≤ bi) (ac : Sl G bh z0.files_.e2_) {x1 : Int} {A2 : Option Addr} {c2 : Nat} {x2 : List UInt8} (hc2 : x2.length ≤ c2) (hs2 : Sl G A2 x2) {Q : Int → disk_Disk → Prop} (h : disk_Disk_Append z0 x1 x2 Q) : Calls Try.prog 26 #[.pointer (some ⟨d0, 0, none⟩), vi x1, .slice A2 x2.length c2] w fun e w2 => ∃ (r0 : Int) (y0 : disk_Disk) (c6 : Option Addr) (c7 : Nat) (c8 : Option Addr) (c9 : Nat) (da : Option Addr) (db : Nat) (L H : Gh), e = .returned (vi r0) ∧ Inv [d0] G w L H w2 ∧ Tok H w2 d0 53 ([.slice c6 y0.files_.e0_.length c7, .slice c8 y0.files_.e1_.length c9, .slice da y0.files_.e2_.length db, vi y0.room_, .bool y0.off_, .bool y0.armed_, vi y0.left_]) ∧ y0.files_.e0_.length ≤ c7 ∧ Sl H c6 y0.files_.e0_ ∧ y0.files_.e1_.length ≤ c9 ∧ Sl H c8 y0.files_.e1_ ∧ y0.files_.e2_.length ≤ db ∧ Sl H da y0.files_.e2_ ∧ Q r0 y0 := by
 unfold disk_Disk_Append at h
 have hI := Inv.start (M := [d0]) hS
 refine calls_W 55 Try.func26 rfl Try.ntmps26 rfl [.tmp 6] rfl ?_
 have gg := ap.blk.lt
 refine W_seq_k fun K1 k1 => ?_
 refine W_region [6] rfl (Ops_step (R_assign rfl) rfl rfl ?_)
 refine Ops_nil ?_
 refine then_n (k1 _ _ ?_)
 clear k1 K1
 refine W_seq_k fun K2 k2 => ?_
 refine W_region [10, 11, 12, 7] rfl (Ops_step (R_move rfl) rfl rfl (Ops_step (R_move rfl) rfl rfl ?_))
 refine Ops_call (C_func bd48 rfl) rfl rfl ?_
 refine (disk_Disk_able_ok (x1 := x1) (z0 := z0) hI.st (hg.up hI.le) ap aq aa ar ab au ac h).mono ?_
 rintro _ jt ⟨gh, ju, jv, rfl, ex, h⟩
 refine Exists.elim (hI.call ex (by simp)) fun ii gf => ?_
 have ij := hI.size
 replace hI := gf.1
 have eq := gf.2.1
 have gi := gf.2.2
 clear gf
 replace aa := aa.up eq.hh
 replace ab := ab.up eq.hh
 replace ac := ac.up eq.hh
 replace ap := ap.up eq (by simp)
 replace hs2 := hs2.up eq.hh
 clear ex eq gi
 refine ⟨_, rfl, ?_⟩
 refine Ops_step (R_assign rfl) rfl rfl ?_
 refine Ops_nil ?_
 refine then_n (k2 _ _ ?_)
 clear k2 K2
 refine W_seq_k fun K4 k4 => ?_
 refine W_block ?_
 refine W_seq_k fun K5 k5 => ?_
 refine W_region [14, 15, 13] rfl (Ops_step (R_move rfl) rfl rfl (Ops_step (R_neq rfl rfl) rfl rfl (Ops_step (R_assign rfl) rfl rfl ?_)))
 refine Ops_nil ?_
 refine then_n (k5 _ _ ?_)
 clear k5 K5
 refine W_keepB [0, 1, 2, 7, 13] fun B_ b_ => ?_
 simp only [e_, Nat.reduceAdd, Nat.reduceBEq] at b_
 subst b_
 refine W_if rfl (fun ek => ?_) (fun ek => ?_)
 ·
  replace h := h.1 ek
  refine W_seq_k fun K8 k8 => ?_
  refine W_region [16, 6] rfl (Ops_step (R_move rfl) rfl rfl (Ops_step (R_assign rfl) rfl rfl ?_))
  refine Ops_nil ?_
  refine then_n (k8 _ _ ?_)
  clear k8 K8
  refine W_keepB [6] fun B_ b_ => ?_
  simp only [e_, Nat.reduceAdd, Nat.reduceBEq] at b_
  subst b_
  refine W_ret ?_
  refine block_ret ?_
  refine then_ret ?_
  clear k4 K4
  refine ⟨_, ⟨_, _, rfl, rfl, rfl⟩, ?_⟩
  exact ⟨gh, z0, bd, be, bf, bg, bh, bi, _, _, rfl, hI, ap, aq, aa, ar, ab, au, ac, h⟩
 ·
  replace h := h.2 ek
  refine W_seq_k fun K10 k10 => ?_
  refine W_drawF [18, 19, 20, 21, 22, 23, 24, 25, 26, 27, 17] [(0, true), (1, true), (2, true), (3, true), (4, true), (5, true), (6, true), (7, false), (8, true), (9, true), (10, true)] TJtC.hm rfl (by kernel_rfl) fun gj ik b5 cd => ?_
  replace hI := hI.fr0 cd
  replace ap := ap.fr0 cd
  clear cd
  refine HSp (R_move rfl) rfl rfl (HSp (R_len Try.underlying29 rfl rfl) rfl rfl (HSp (R_move rfl) rfl rfl (HSp (R_nilCheck rfl) rfl rfl (HSp (R_fieldAddr fo53_1 rfl) rfl rfl ?_))))
  refine HS_loadB (v := vi z0.room_) ag3 rfl ap.blk rfl rfl rfl ?_
  refine HSp (R_move rfl) rfl rfl ?_
  refine HS_call [5] _ rfl (by rw [b5]; kernel_rfl) (C_func bd49 rfl) rfl rfl ?_
  refine (disk_Disk_Used_ok (z0 := z0) hI.st (hg.up hI.le) ap aq aa ar ab au ac h).mono ?_
  rintro _ il ⟨gq, im, io, rfl, dc, h⟩
  refine Exists.elim (hI.call dc (by simp)) fun gr cu => ?_
  have gt := hI.size
  replace hI := cu.1
  have b9 := cu.2.1
  have ey := cu.2.2
  clear cu
  replace aa := aa.up b9.hh
  replace ab := ab.up b9.hh
  replace ac := ac.up b9.hh
  replace ap := ap.up b9 (by simp)
  replace hs2 := hs2.up b9.hh
  clear dc b9 ey
  refine ⟨_, rfl, ⟨(ap.blk.at_ rfl), trivial⟩, ?_⟩
  have dd := h.1
  replace h := h.2
  refine HSp (R_sub rfl rfl (wI dd.1 dd.2)) rfl rfl (HSp (R_gtr rfl rfl) rfl rfl (HSp (R_assign rfl) rfl rfl ?_))
  refine HS_nil ?_
  clear b5
  refine then_n (k10 _ _ ?_)
  clear k10 K10
  refine W_keepB [0, 1, 2, 17] fun B_ b_ => ?_
  simp only [e_, Nat.reduceAdd, Nat.reduceBEq] at b_
  subst b_
  refine W_if rfl (fun ce => ?_) (fun ce => ?_)
  ·
   replace h := h.1 ce
   refine W_seq_k fun K16 k16 => ?_
   refine W_region [6] rfl (Ops_step (R_assign rfl) rfl rfl ?_)
   refine Ops_nil ?_
   refine then_n (k16 _ _ ?_)
   clear k16 K16
   refine W_ret ?_
   refine block_ret ?_
   refine then_ret ?_
   clear k4 K4
   refine ⟨_, ⟨_, _, rfl, rfl, rfl⟩, ?_⟩
   exact ⟨7, z0, bd, be, bf, bg, bh, bi, _, _, rfl, hI, ap, aq, aa, ar, ab, au, ac, h⟩
  ·
   replace h := h.2 ce
   refine W_skip ?_
   refine block_n ?_
   refine then_n (k4 _ _ ?_)
   clear k4 K4
   refine W_seq_k fun K17 k17 => ?_
   refine W_region [28, 29, 30, 31, 32, 33, 8] rfl (Ops_step (R_move rfl) rfl rfl (Ops_step (R_move rfl) rfl rfl (Ops_step (R_nilCheck rfl) rfl rfl (Ops_step (R_fieldAddr fo53_0 rfl) rfl rfl ?_))))
   have ez := h.1
   replace h := h.2
   refine split3 ez (fun av => ?_) (fun av => ?_) (fun av => ?_)
   ·
    replace h := h.1 av
    refine Ops_step (R_indexArrK Try.underlying51 sz29 rfl rfl av (by decide)) rfl rfl ?_
    refine Ops_step (R_loadB (v := .slice bd z0.files_.e0_.length be) ag29 rfl ap.blk rfl) rfl rfl ?_
    refine Ops_step (R_assign rfl) rfl rfl ?_
    refine Ops_nil ?_
    refine then_n (k17 _ _ ?_)
    clear k17 K17
    refine W_keepB [0, 1, 2, 8] fun B_ b_ => ?_
    simp only [e_, Nat.reduceAdd, Nat.reduceBEq] at b_
    subst b_
    refine W_seq_k fun K20 k20 => ?_
    refine W_region [34, 35, 36, 37, 9] rfl (Ops_step (R_move rfl) rfl rfl (Ops_step (R_move rfl) rfl rfl (Ops_step (R_len Try.underlying29 rfl rfl) rfl rfl ?_)))
    refine Ops_call (C_func bd50 rfl) rfl rfl ?_
    refine (disk_Disk_burn_ok (x1 := (x2.length : Int)) (z0 := z0) hI.st (hg.up hI.le) ap aq aa ar ab au ac h).mono ?_
    rintro _ ip ⟨bj, ad, e5, e8, bl, bm, bn, bo, iq, ir, rfl, de, ag, et, aw, ax, aj, ay, ak, h⟩
    refine Exists.elim (hI.call de (mem1 (by simp))) fun gu cv => ?_
    have gv := hI.size
    replace hI := cv.1
    have cf := cv.2.1
    have e9 := cv.2.2
    clear cv
    replace aa := aa.up cf.hh
    replace ab := ab.up cf.hh
    replace ac := ac.up cf.hh
    replace hs2 := hs2.up cf.hh
    clear ap
    clear de cf e9
    refine ⟨_, rfl, ?_⟩
    refine Ops_step (R_assign rfl) rfl rfl ?_
    refine Ops_nil ?_
    refine then_n (k20 _ _ ?_)
    clear k20 K20
    refine W_seq_k fun K22 k22 => ?_
    refine W_drawF [38, 39, 40, 41, 42, 43, 44, 45, 46, 47, 48, 49, 50, 51, 52, none] [(0, true), (1, true), (2, true), (3, true), (4, true), (5, true), (6, true), (7, true), (8, true), (9, true), (10, true), (12, true), (13, true), (11, false), (14, true), (15, false)] TJtC.hm rfl (by kernel_rfl) fun gk it a9 cg => ?_
    replace hI := hI.fr0 cg
    replace ag := ag.fr0 cg
    clear cg
    refine HSp (R_move rfl) rfl rfl (HSp (R_move rfl) rfl rfl (HSp (R_move rfl) rfl rfl (HSp (R_move rfl) rfl rfl (HSp (R_len Try.underlying29 rfl rfl) rfl rfl ?_))))
    refine HSp (R_move rfl) rfl rfl (HSp (R_len Try.underlying29 rfl rfl) rfl rfl ?_)
    have df := h.1
    replace h := h.2
    refine Exists.elim (cut_ex3 (n := 1) aa rfl (by decide) (Int.le_refl 0) df (Int.le_refl _)) fun iu en => ?_
    have dg := en.1
    have fa := en.2
    clear en
    refine HSp (X_slice3 (xs := z0.files_.e0_) Try.underlying29 sz5 rfl dg aq rfl rfl rfl (Int.le_refl 0) df (Int.le_refl _)) rfl rfl ?_
    clear dg
    refine HSp (R_move rfl) rfl rfl (HSp (R_move rfl) rfl rfl ?_)
    have dh := h.1
    replace h := h.2
    have di := h.1
    replace h := h.2
    refine Exists.elim (cut_ex (n := 1) (l := 0) (h := bj) hs2 rfl (by decide) hc2 (Int.le_refl 0) dh di) fun iv ca => Exists.elim ca fun iw ca => ?_
    have dj := ca.1
    have gw := ca.2.1
    have fb := ca.2.2
    clear ca
    refine HSp (X_slice (xs := x2) Try.underlying29 sz5 rfl dj hc2 rfl rfl (Int.le_refl 0) dh di) rfl rfl ?_
    clear dj
    refine HSp (R_nilCheck rfl) rfl rfl (HSp (R_fieldAddr fo53_0 rfl) rfl rfl ?_)
    have fc := h.1
    replace h := h.2
    refine HS_to [] _ rfl (by rw [a9]; kernel_rfl) (X_appendTightF (α := UInt8) (xs := (cut z0.files_.e0_ 0 (z0.files_.e0_.length : Int))) (ys := (cut x2 0 bj)) el29 rfl rfl rfl fa (Srcs.ofSl Try.underlying29 fb hI.st (by decide)) hI fc (by decide)) rfl rfl ?_
    rintro _ ix ⟨fd, fe, iy, gl, rfl, dk, ci, dl, b6⟩
    replace hI := dk
    replace ag := ag.up ci (by simp)
    replace aw := aw.up ci.hh
    replace aj := aj.up ci.hh
    replace ak := ak.up ci.hh
    clear dk ci
    refine ⟨trivial, ?_⟩
    refine HSp (R_indexArrK Try.underlying51 sz29 rfl rfl av (by decide)) rfl rfl ?_
    refine HS_to0 [] _ rfl (by rw [a9]; kernel_rfl) (R_store sz29 rfl rfl ag.blk (by show 0 < 7; decide) rfl) rfl ?_
    rintro _ iz ⟨dm, dn⟩
    replace hI := hI.tok dn (out1 ag.out) (mem1 (by simp))
    replace ag : Tok gl _ d0 53 ([.slice fd (((cut z0.files_.e0_ 0 (z0.files_.e0_.length : Int)) ++ (cut x2 0 bj)).length) fe, .slice bl ad.files_.e1_.length bm, .slice bn ad.files_.e2_.length bo, vi ad.room_, .bool ad.off_, .bool ad.armed_, vi ad.left_]) := ⟨dm, ag.out⟩
    clear dn dm
    refine ⟨trivial, ?_⟩
    refine HS_nil ?_
    clear a9
    refine then_n (k22 _ _ ?_)
    clear k22 K22
    refine W_keepB [0] fun B_ b_ => ?_
    simp only [e_, Nat.reduceAdd, Nat.reduceBEq] at b_
    subst b_
    refine W_seq_k fun K33 k33 => ?_
    refine W_region [53, 54, 6] rfl (Ops_step (R_move rfl) rfl rfl ?_)
    refine Ops_call (C_func bd51 rfl) rfl rfl ?_
    refine (disk_Disk_done_ok (z0 := (disk_Disk.mk (arr3_List_UInt8.mk ((cut z0.files_.e0_ 0 (z0.files_.e0_.length : Int)) ++ (cut x2 0 bj)) ad.files_.e1_ ad.files_.e2_) ad.room_ ad.off_ ad.armed_ ad.left_)) hI.st (hg.up hI.le) ag dl b6 ax aj ay ak h).mono ?_
    rintro _ i0 ⟨ff, i1, i2, rfl, dp, h⟩
    refine Exists.elim (hI.call dp (by simp)) fun gx cw => ?_
    have gy := hI.size
    replace hI := cw.1
    have cj := cw.2.1
    have fg := cw.2.2
    clear cw
    replace ag := ag.up cj (by simp)
    replace aj := aj.up cj.hh
    replace ak := ak.up cj.hh
    replace b6 := b6.up cj.hh
    clear dp cj fg
    refine ⟨_, rfl, ?_⟩
    refine Ops_step (R_assign rfl) rfl rfl ?_
    refine Ops_nil ?_
    refine then_n (k33 _ _ ?_)
    clear k33 K33
    refine W_ret ?_
    refine ⟨_, ⟨_, _, rfl, rfl, rfl⟩, ?_⟩
    exact ⟨ff, (disk_Disk.mk (arr3_List_UInt8.mk ((cut z0.files_.e0_ 0 (z0.files_.e0_.length : Int)) ++ (cut x2 0 bj)) ad.files_.e1_ ad.files_.e2_) ad.room_ ad.off_ ad.armed_ ad.left_), fd, fe, bl, bm, bn, bo, _, _, rfl, hI, ag, dl, b6, ax, aj, ay, ak, h⟩
   ·
    replace h := h.2.1 av
    refine Ops_step (R_indexArrK Try.underlying51 sz29 rfl rfl av (by decide)) rfl rfl ?_
    refine Ops_step (R_loadB (v := .slice bf z0.files_.e1_.length bg) ag29 rfl ap.blk rfl) rfl rfl ?_
    refine Ops_step (R_assign rfl) rfl rfl ?_
    refine Ops_nil ?_
    refine then_n (k17 _ _ ?_)
    clear k17 K17
    refine W_keepB [0, 1, 2, 8] fun B_ b_ => ?_
    simp only [e_, Nat.reduceAdd, Nat.reduceBEq] at b_
    subst b_
    refine W_seq_k fun K36 k36 => ?_
    refine W_region [34, 35, 36, 37, 9] rfl (Ops_step (R_move rfl) rfl rfl (Ops_step (R_move rfl) rfl rfl (Ops_step (R_len Try.underlying29 rfl rfl) rfl rfl ?_)))
    refine Ops_call (C_func bd50 rfl) rfl rfl ?_
    refine (disk_Disk_burn_ok (x1 := (x2.length : Int)) (z0 := z0) hI.st (hg.up hI.le) ap aq aa ar ab au ac h).mono ?_
    rintro _ i3 ⟨bp, ae, bq, br, fh, fi, bt, bu, i4, i5, rfl, dq, ah, az, al, eu, a4, a5, am, h⟩
    refine Exists.elim (hI.call dq (mem1 (by simp))) fun gz cx => ?_
    have g6 := hI.size
    replace hI := cx.1
    have ck := cx.2.1
    have fj := cx.2.2
    clear cx
    replace aa := aa.up ck.hh
    replace ab := ab.up ck.hh
    replace ac := ac.up ck.hh
    replace hs2 := hs2.up ck.hh
    clear ap
    clear dq ck fj
    refine ⟨_, rfl, ?_⟩
    refine Ops_step (R_assign rfl) rfl rfl ?_
    refine Ops_nil ?_
    refine then_n (k36 _ _ ?_)
    clear k36 K36
    refine W_seq_k fun K38 k38 => ?_
    refine W_drawF [38, 39, 40, 41, 42, 43, 44, 45, 46, 47, 48, 49, 50, 51, 52, none] [(0, true), (1, true), (2, true), (3, true), (4, true), (5, true), (6, true), (7, true), (8, true), (9, true), (10, true), (12, true), (13, true), (11, false), (14, true), (15, false)] TJtC.hm rfl (by kernel_rfl) fun gm i6 ba cl => ?_
    replace hI := hI.fr0 cl
    replace ah := ah.fr0 cl
    clear cl
    refine HSp (R_move rfl) rfl rfl (HSp (R_move rfl) rfl rfl (HSp (R_move rfl) rfl rfl (HSp (R_move rfl) rfl rfl (HSp (R_len Try.underlying29 rfl rfl) rfl rfl ?_))))
    refine HSp (R_move rfl) rfl rfl (HSp (R_len Try.underlying29 rfl rfl) rfl rfl ?_)
    have dr := h.1
    replace h := h.2
    refine Exists.elim (cut_ex3 (n := 1) ab rfl (by decide) (Int.le_refl 0) dr (Int.le_refl _)) fun i7 eo => ?_
    have dt := eo.1
    have fk := eo.2
    clear eo
    refine HSp (X_slice3 (xs := z0.files_.e1_) Try.underlying29 sz5 rfl dt ar rfl rfl rfl (Int.le_refl 0) dr (Int.le_refl _)) rfl rfl ?_
    clear dt
    refine HSp (R_move rfl) rfl rfl (HSp (R_move rfl) rfl rfl ?_)
    have du := h.1
    replace h := h.2
    have dv := h.1
    replace h := h.2
    refine Exists.elim (cut_ex (n := 1) (l := 0) (h := bp) hs2 rfl (by decide) hc2 (Int.le_refl 0) du dv) fun i8 cb => Exists.elim cb fun i9 cb => ?_
    have dw := cb.1
    have g7 := cb.2.1
    have fm := cb.2.2
    clear cb
    refine HSp (X_slice (xs := x2) Try.underlying29 sz5 rfl dw hc2 rfl rfl (Int.le_refl 0) du dv) rfl rfl ?_
    clear dw
    refine HSp (R_nilCheck rfl) rfl rfl (HSp (R_fieldAddr fo53_0 rfl) rfl rfl ?_)
    have fo := h.1
    replace h := h.2
    refine HS_to [] _ rfl (by rw [ba]; kernel_rfl) (X_appendTightF (α := UInt8) (xs := (cut z0.files_.e1_ 0 (z0.files_.e1_.length : Int))) (ys := (cut x2 0 bp)) el29 rfl rfl rfl fk (Srcs.ofSl Try.underlying29 fm hI.st (by decide)) hI fo (by decide)) rfl rfl ?_
    rintro _ ja ⟨fp, fq, jb, gn, rfl, dx, cm, dy, b7⟩
    replace hI := dx
    replace ah := ah.up cm (by simp)
    replace al := al.up cm.hh
    replace a4 := a4.up cm.hh
    replace am := am.up cm.hh
    clear dx cm
    refine ⟨trivial, ?_⟩
    refine HSp (R_indexArrK Try.underlying51 sz29 rfl rfl av (by decide)) rfl rfl ?_
    refine HS_to0 [] _ rfl (by rw [ba]; kernel_rfl) (R_store sz29 rfl rfl ah.blk (by show 1 < 7; decide) rfl) rfl ?_
    rintro _ jc ⟨dz, d5⟩
    replace hI := hI.tok d5 (out1 ah.out) (mem1 (by simp))
    replace ah : Tok gn _ d0 53 ([.slice bq ae.files_.e0_.length br, .slice fp (((cut z0.files_.e1_ 0 (z0.files_.e1_.length : Int)) ++ (cut x2 0 bp)).length) fq, .slice bt ae.files_.e2_.length bu, vi ae.room_, .bool ae.off_, .bool ae.armed_, vi ae.left_]) := ⟨dz, ah.out⟩
    clear d5 dz
    refine ⟨trivial, ?_⟩
    refine HS_nil ?_
    clear ba
    refine then_n (k38 _ _ ?_)
    clear k38 K38
    refine W_keepB [0] fun B_ b_ => ?_
    simp only [e_, Nat.reduceAdd, Nat.reduceBEq] at b_
    subst b_
    refine W_seq_k fun K49 k49 => ?_
    refine W_region [53, 54, 6] rfl (Ops_step (R_move rfl) rfl rfl ?_)
    refine Ops_call (C_func bd51 rfl) rfl rfl ?_
    refine (disk_Disk_done_ok (z0 := (disk_Disk.mk (arr3_List_UInt8.mk ae.files_.e0_ ((cut z0.files_.e1_ 0 (z0.files_.e1_.length : Int)) ++ (cut x2 0 bp)) ae.files_.e2_) ae.room_ ae.off_ ae.armed_ ae.left_)) hI.st (hg.up hI.le) ah az al dy b7 a5 am h).mono ?_
    rintro _ jd ⟨ft, je, jf, rfl, d6, h⟩
    refine Exists.elim (hI.call d6 (by simp)) fun g8 cy => ?_
    have g9 := hI.size
    replace hI := cy.1
    have co := cy.2.1
    have fu := cy.2.2
    clear cy
    replace ah := ah.up co (by simp)
    replace al := al.up co.hh
    replace am := am.up co.hh
    replace b7 := b7.up co.hh
    clear d6 co fu
    refine ⟨_, rfl, ?_⟩
    refine Ops_step (R_assign rfl) rfl rfl ?_
    refine Ops_nil ?_
    refine then_n (k49 _ _ ?_)
    clear k49 K49
    refine W_ret ?_
    refine ⟨_, ⟨_, _, rfl, rfl, rfl⟩, ?_⟩
    exact ⟨ft, (disk_Disk.mk (arr3_List_UInt8.mk ae.files_.e0_ ((cut z0.files_.e1_ 0 (z0.files_.e1_.length : Int)) ++ (cut x2 0 bp)) ae.files_.e2_) ae.room_ ae.off_ ae.armed_ ae.left_), bq, br, fp, fq, bt, bu, _, _, rfl, hI, ah, az, al, dy, b7, a5, am, h⟩
   ·
    replace h := h.2.2 av
    refine Ops_step (R_indexArrK Try.underlying51 sz29 rfl rfl av (by decide)) rfl rfl ?_
    refine Ops_step (R_loadB (v := .slice bh z0.files_.e2_.length bi) ag29 rfl ap.blk rfl) rfl rfl ?_
    refine Ops_step (R_assign rfl) rfl rfl ?_
    refine Ops_nil ?_
    refine then_n (k17 _ _ ?_)
    clear k17 K17
    refine W_keepB [0, 1, 2, 8] fun B_ b_ => ?_
    simp only [e_, Nat.reduceAdd, Nat.reduceBEq] at b_
    subst b_
    refine W_seq_k fun K52 k52 => ?_
    refine W_region [34, 35, 36, 37, 9] rfl (Ops_step (R_move rfl) rfl rfl (Ops_step (R_move rfl) rfl rfl (Ops_step (R_len Try.underlying29 rfl rfl) rfl rfl ?_)))
    refine Ops_call (C_func bd50 rfl) rfl rfl ?_
    refine (disk_Disk_burn_ok (x1 := (x2.length : Int)) (z0 := z0) hI.st (hg.up hI.le) ap aq aa ar ab au ac h).mono ?_
    rintro _ jg ⟨bv, af, bw, bx, bz, b4, fv, fw, jh, ji, rfl, d7, ai, a6, an, a7, ao, ew, a8, h⟩
    refine Exists.elim (hI.call d7 (mem1 (by simp))) fun ia cz => ?_
    have ib := hI.size
    replace hI := cz.1
    have cp := cz.2.1
    have fx := cz.2.2
    clear cz
    replace aa := aa.up cp.hh
    replace ab := ab.up cp.hh
    replace ac := ac.up cp.hh
    replace hs2 := hs2.up cp.hh
    clear ap
    clear d7 cp fx
    refine ⟨_, rfl, ?_⟩
    refine Ops_step (R_assign rfl) rfl rfl ?_
    refine Ops_nil ?_
    refine then_n (k52 _ _ ?_)
    clear k52 K52
    refine W_seq_k fun K54 k54 => ?_
    refine W_drawF [38, 39, 40, 41, 42, 43, 44, 45, 46, 47, 48, 49, 50, 51, 52, none] [(0, true), (1, true), (2, true), (3, true), (4, true), (5, true), (6, true), (7, true), (8, true), (9, true), (10, true), (12, true), (13, true), (11, false), (14, true), (15, false)] TJtC.hm rfl (by kernel_rfl) fun go jj bc cq => ?_
    replace hI := hI.fr0 cq
    replace ai := ai.fr0 cq
    clear cq
    refine HSp (R_move rfl) rfl rfl (HSp (R_move rfl) rfl rfl (HSp (R_move rfl) rfl rfl (HSp (R_move rfl) rfl rfl (HSp (R_len Try.underlying29 rfl rfl) rfl rfl ?_))))
    refine HSp (R_move rfl) rfl rfl (HSp (R_len Try.underlying29 rfl rfl) rfl rfl ?_)
    have d8 := h.1
    replace h := h.2
    refine Exists.elim (cut_ex3 (n := 1) ac rfl (by decide) (Int.le_refl 0) d8 (Int.le_refl _)) fun jk ep => ?_
    have d9 := ep.1
    have fy := ep.2
    clear ep
    refine HSp (X_slice3 (xs := z0.files_.e2_) Try.underlying29 sz5 rfl d9 au rfl rfl rfl (Int.le_refl 0) d8 (Int.le_refl _)) rfl rfl ?_
    clear d9
    refine HSp (R_move rfl) rfl rfl (HSp (R_move rfl) rfl rfl ?_)
    have ea := h.1
    replace h := h.2
    have eb := h.1
    replace h := h.2
    refine Exists.elim (cut_ex (n := 1) (l := 0) (h := bv) hs2 rfl (by decide) hc2 (Int.le_refl 0) ea eb) fun jl cc => Exists.elim cc fun jm cc => ?_
    have ec := cc.1
    have ic := cc.2.1
    have f0 := cc.2.2
    clear cc
    refine HSp (X_slice (xs := x2) Try.underlying29 sz5 rfl ec hc2 rfl rfl (Int.le_refl 0) ea eb) rfl rfl ?_
    clear ec
    refine HSp (R_nilCheck rfl) rfl rfl (HSp (R_fieldAddr fo53_0 rfl) rfl rfl ?_)
    have f8 := h.1
    replace h := h.2
    refine HS_to [] _ rfl (by rw [bc]; kernel_rfl) (X_appendTightF (α := UInt8) (xs := (cut z0.files_.e2_ 0 (z0.files_.e2_.length : Int))) (ys := (cut x2 0 bv)) el29 rfl rfl rfl fy (Srcs.ofSl Try.underlying29 f0 hI.st (by decide)) hI f8 (by decide)) rfl rfl ?_
    rintro _ jn ⟨f9, ga, jo, gp, rfl, ee, cr, eg, b8⟩
    replace hI := ee
    replace ai := ai.up cr (by simp)
    replace an := an.up cr.hh
    replace ao := ao.up cr.hh
    replace a8 := a8.up cr.hh
    clear ee cr
    refine ⟨trivial, ?_⟩
    refine HSp (R_indexArrK Try.underlying51 sz29 rfl rfl av (by decide)) rfl rfl ?_
    refine HS_to0 [] _ rfl (by rw [bc]; kernel_rfl) (R_store sz29 rfl rfl ai.blk (by show 2 < 7; decide) rfl) rfl ?_
    rintro _ jp ⟨eh, ei⟩
    replace hI := hI.tok ei (out1 ai.out) (mem1 (by simp))
    replace ai : Tok gp _ d0 53 ([.slice bw af.files_.e0_.length bx, .slice bz af.files_.e1_.length b4, .slice f9 (((cut z0.files_.e2_ 0 (z0.files_.e2_.length : Int)) ++ (cut x2 0 bv)).length) ga, vi af.room_, .bool af.off_, .bool af.armed_, vi af.left_]) := ⟨eh, ai.out⟩
    clear ei eh
    refine ⟨trivial, ?_⟩
    refine HS_nil ?_
    clear bc
    refine then_n (k54 _ _ ?_)
    clear k54 K54
    refine W_keepB [0] fun B_ b_ => ?_
    simp only [e_, Nat.reduceAdd, Nat.reduceBEq] at b_
    subst b_
    refine W_seq_k fun K65 k65 => ?_
    refine W_region [53, 54, 6] rfl (Ops_step (R_move rfl) rfl rfl ?_)
    refine Ops_call (C_func bd51 rfl) rfl rfl ?_
    refine (disk_Disk_done_ok (z0 := (disk_Disk.mk (arr3_List_UInt8.mk af.files_.e0_ af.files_.e1_ ((cut z0.files_.e2_ 0 (z0.files_.e2_.length : Int)) ++ (cut x2 0 bv))) af.room_ af.off_ af.armed_ af.left_)) hI.st (hg.up hI.le) ai a6 an a7 ao eg b8 h).mono ?_
    rintro _ jq ⟨gb, jr, js, rfl, ej, h⟩
    refine Exists.elim (hI.call ej (by simp)) fun ie c5 => ?_
    have ig := hI.size
    replace hI := c5.1
    have ct := c5.2.1
    have gc := c5.2.2
    clear c5
    replace ai := ai.up ct (by simp)
    replace an := an.up ct.hh
    replace ao := ao.up ct.hh
    replace b8 := b8.up ct.hh
    clear ej ct gc
    refine ⟨_, rfl, ?_⟩
    refine Ops_step (R_assign rfl) rfl rfl ?_
    refine Ops_nil ?_
    refine then_n (k65 _ _ ?_)
    clear k65 K65
    refine W_ret ?_
    refine ⟨_, ⟨_, _, rfl, rfl, rfl⟩, ?_⟩
    exact ⟨gb, (disk_Disk.mk (arr3_List_UInt8.mk af.files_.e0_ af.files_.e1_ ((cut z0.files_.e2_ 0 (z0.files_.e2_.length : Int)) ++ (cut x2 0 bv))) af.room_ af.off_ af.armed_ af.left_), bw, bx, bz, b4, f9, ga, _, _, rfl, hI, ai, a6, an, a7, ao, eg, b8, h⟩

end Go.Proofs.Ytkmljjhjojolcaa

