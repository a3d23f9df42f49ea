/- What is shown of the program on the way to the law. -/
import Derived.Test.YtkmljjhjojolcaaZp3
import Derived.Test.YtkmljjhjojolcaaZp4
import Derived.Test.YtkmljjhjojolcaaZp12
import Derived.Test.YtkmljjhjojolcaaProg
set_option linter.unusedVariables false
set_option linter.unusedSimpArgs false
set_option maxHeartbeats 4000000
namespace Go.Proofs.Ytkmljjhjojolcaa
open Go Go.Sx Go.Lx
namespace TJtH
theorem hm : Try.prog.follows .mixedOrders = true := by kernel_rfl
theorem ag29 : aggB Try.prog 29 = some false := by kernel_rfl
theorem ag3 : aggB Try.prog 3 = some false := by kernel_rfl
theorem ag32 : aggB Try.prog 32 = some false := by kernel_rfl
theorem ag5 : aggB Try.prog 5 = some false := by kernel_rfl
theorem bd71 : bodied Try.prog 71 = true := by kernel_rfl
theorem bd72 : bodied Try.prog 72 = true := by kernel_rfl
theorem bd73 : bodied Try.prog 73 = true := by kernel_rfl
theorem bd75 : bodied Try.prog 75 = true := by kernel_rfl
theorem bd77 : bodied Try.prog 77 = true := by kernel_rfl
theorem bd78 : bodied Try.prog 78 = true := by kernel_rfl
theorem bd86 : bodied Try.prog 86 = true := by kernel_rfl
theorem bd87 : bodied Try.prog 87 = true := by kernel_rfl
theorem bd88 : bodied Try.prog 88 = true := by kernel_rfl
theorem bd92 : bodied Try.prog 92 = true := by kernel_rfl
theorem el116 : Elem Try.prog 116 3 1 8 := Elem.of (by kernel_rfl)
theorem el29 : Elem Try.prog 29 5 1 1 := Elem.of (by kernel_rfl)
theorem el67 : Elem Try.prog 67 29 1 24 := Elem.of (by kernel_rfl)
theorem fo113_0 : offB Try.prog 113 0 = some 0 := by kernel_rfl
theorem fo113_1 : offB Try.prog 113 1 = some 1 := by kernel_rfl
theorem fo113_2 : offB Try.prog 113 2 = some 2 := by kernel_rfl
theorem pl113 : partPl Try.prog 113 = some [(0, 1), (1, 1), (2, 1)] := by kernel_rfl
theorem sz29 : sz Try.prog 29 = some 1 := by kernel_rfl
theorem sz3 : sz Try.prog 3 = some 1 := by kernel_rfl
theorem sz32 : sz Try.prog 32 = some 1 := by kernel_rfl
theorem sz5 : sz Try.prog 5 = some 1 := by kernel_rfl
theorem zr113 : zr Try.prog 113 = some ([.slice none 0 0] ++ [.int .i64 0] ++ [.int .i64 0]) := by kernel_rfl
theorem zr123 : zr Try.prog 123 = some (List.replicate 8 (.int .u8 0)) := by kernel_rfl
theorem zr29 : zr Try.prog 29 = some ([.slice none 0 0]) := by kernel_rfl
theorem zr3 : zr Try.prog 3 = some ([.int .i64 0]) := by kernel_rfl
theorem zr5 : zr Try.prog 5 = some ([.int .u8 0]) := by kernel_rfl
end TJtH
open TJtH
theorem sealskinref02_Put_ok {G : Gh} {w : World} (hS : St G w) (hg : GL G) {A0 : Option Addr} {c0 : Nat} {x0 : List UInt8} (hc0 : x0.length ≤ c0) (hs0 : Sl G A0 x0) {A1 : Option Addr} {c1 : Nat} {x1 : List Int} (hc1 : x1.length ≤ c1) (hs1 : Sl G A1 x1) {Q : (List UInt8) → Prop} (h : sealskinref02_Put x0 x1 Q) : Calls Try.prog 77 #[.slice A0 x0.length c0, .slice A1 x1.length c1] w fun e w2 => ∃ (A0 : Option Addr) (c0 : Nat) (r0 : List UInt8) (L H : Gh), e = .returned (.slice A0 r0.length c0) ∧ Inv [] G w L H w2 ∧ OwnS w.heap.size 5 L H w2 A0 c0 r0 ∧ Q r0 := by
 unfold sealskinref02_Put at h
 have hI := Inv.start (M := []) hS
 refine calls_W 47 Try.func77 rfl Try.ntmps77 rfl [.tmp 4] rfl ?_
 refine W_seq_k fun K1 k1 => ?_
 refine W_region [4] rfl (Ops_step (R_assign rfl) rfl rfl ?_)
 refine Ops_nil ?_
 refine then_n (k1 _ _ ?_)
 clear k1 K1
 refine W_seq_k fun K2 k2 => ?_
 refine W_region [12, 13, 14, 5] rfl ?_
 refine Ops_to (R_buildSlice0 el29) rfl rfl ?_
 rintro _ e9 ⟨eb, rfl, dm, cy, cz⟩
 have bx : OwnS w.heap.size 5 Gh.no G _ (some ⟨eb, 0, none⟩) 0 ([] : List UInt8) := OwnS.ofBlk hI.st dm cy (all2_sc' _) rfl (by have := hI.size; omega) (by show 0 ≤ maxLen; decide)
 replace hI := hI.fr0 cz
 clear cz cy
 refine Ops_step (R_move rfl) rfl rfl ?_
 have dn := h.1
 replace h := h.2
 refine Ops_to (X_append (α := UInt8) (xs := ([] : List UInt8)) (ys := x0) el29 rfl rfl bx (Srcs.sc (Srcs.ofSl Try.underlying29 hs0 hI.st (by decide))) hI.st dn (by decide) hI.size) rfl rfl ?_
 rintro _ fa ⟨ec, ee, rfl, dp, c5, c6⟩
 clear c6
 replace hI := hI.tok c5 bx.out (bx.new (Nat.le_refl _))
 clear c5 bx
 refine Ops_step (R_assign rfl) rfl rfl ?_
 refine Ops_nil ?_
 refine then_n (k2 _ _ ?_)
 clear k2 K2
 refine ex_ h fun eg cr h => ?_
 refine W_seq_join [] [5] (fun vals_ w2 => ∃ (bh : List UInt8) (bz : Option Addr) (b4 : Nat) (L H : Gh), vals_ = [.slice bz bh.length b4] ∧ eg bh ∧ Inv [] G w L H w2 ∧ Le Gh.no L ∧ Le G H ∧ OwnS w.heap.size 5 Gh.no H w2 bz b4 bh ∧ True) (fun B_ b_ => ?_) (fun B_ b_ => ?_)
 ·
  simp only [e_, Nat.reduceAdd, Nat.reduceBEq] at b_
  subst b_
  clear cr
  have ai := Le.refl Gh.no
  have aj := Le.refl G
  refine W_seq_k fun K7 k7 => ?_
  refine W_region [15, 16, 17] rfl (Ops_step (R_move rfl) rfl rfl (Ops_step (R_len Try.underlying116 rfl rfl) rfl rfl (Ops_step (R_move rfl) rfl rfl ?_)))
  refine Ops_nil ?_
  refine then_n (k7 _ _ ?_)
  clear k7 K7
  refine W_keepB [5, 15, 16, 17] fun B_ b_ => ?_
  simp only [e_, Nat.reduceAdd, Nat.reduceBEq] at b_
  subst b_
  refine W_block ?_
  refine Exists.elim h fun eh h => Exists.elim h fun ei h => ?_
  have b6 := h.1
  have c7 := h.2
  clear h
  refine W_loopB [15, 16] [5, 17] (fun m vals_ w2 => ∃ (az : List UInt8) (a9 : Option Addr) (ba : Nat) (a6 : Int) (L H : Gh), vals_ = [.slice a9 az.length ba, vi a6] ∧ eh m az a6 ∧ Inv [] G w L H w2 ∧ Le Gh.no L ∧ Le G H ∧ OwnS w.heap.size 5 Gh.no H w2 a9 ba az ∧ True) ei _ rfl ⟨(([] : List UInt8) ++ x0), ec, ee, 0, _, _, rfl, b6, hI, Le.refl _, Le.refl _, dp, trivial⟩ fun B_ b_ => ?_
  clear b6
  simp only [e_, Nat.reduceAdd, Nat.reduceBEq] at b_
  subst b_
  rintro ej _ fb ⟨az, a9, ba, a6, c8, cx, rfl, c9, da, am, ak, ae, -⟩
  replace hI := da
  clear da
  have h := c7 ej az a6 c9
  clear c7 c9
  replace hs1 := hs1.up ak
  replace ai := ai.trans am
  replace aj := aj.trans ak
  refine W_seq_k fun K10 k10 => ?_
  refine W_region [18] rfl (Ops_step (R_lss rfl rfl) rfl rfl ?_)
  refine Ops_nil ?_
  refine then_n (k10 _ _ ?_)
  clear k10 K10
  refine W_seq_k fun K11 k11 => ?_
  refine W_if rfl (fun bj => ?_) (fun bj => ?_)
  ·
   replace h := h.1 bj
   refine W_skip ?_
   refine then_n (k11 _ _ ?_)
   clear k11 K11
   refine ex_ h fun dq bl h => ?_
   refine W_seq_join [15, 16, 17] [5] (fun vals_ w2 => ∃ (ay : List UInt8) (bd : Option Addr) (be : Nat) (L H : Gh), vals_ = [.slice bd ay.length be] ∧ dq ay ∧ Inv [] G w L H w2 ∧ Le c8 L ∧ Le cx H ∧ OwnS w.heap.size 5 Gh.no H w2 bd be ay ∧ True) (fun B_ b_ => ?_) (fun B_ b_ => ?_)
   ·
    simp only [e_, Nat.reduceAdd, Nat.reduceBEq] at b_
    subst b_
    clear bl
    have af := Le.refl c8
    have ad := Le.refl cx
    refine W_block ?_
    refine W_seq_k fun K14 k14 => ?_
    refine W_region [19, 20, 7] rfl ?_
    refine ex_ h fun dr bf h => ?_
    have db := (hs1.atS bf).1
    have dc := (hs1.atS bf).2
    refine Ops_step (R_indexSl Try.underlying116 sz3 rfl rfl bf.1 bf.lt db) rfl rfl (Ops_step (R_load ag3 rfl (hI.st _ _ dc)) rfl rfl (Ops_step (R_assign rfl) rfl rfl ?_))
    refine Ops_nil ?_
    refine then_n (k14 _ _ ?_)
    clear k14 K14
    refine W_seq_k fun K16 k16 => ?_
    refine W_region [8] rfl ?_
    have ct := hI
    refine Ops_to (R_alloc zr123) rfl rfl ?_
    rintro _ ek ⟨bi, rfl, bm, b7, bn⟩
    replace hI := hI.fr0 bn
    replace ae := ae.fr0 bn
    have dd : Tok cx _ bi 123 ((Arr.mk (n := 8) (List.replicate 8 (0 : UInt8))).l.map vb) := ⟨b7.to (by first | (rw [List.map_replicate]; done) | (rw [List.map_replicate]; rfl)), Out.ge ct.st (Nat.le_of_eq bm.symm)⟩
    have bo : w.heap.size ≤ bi := bm ▸ ct.size
    clear b7 bm ct bn
    refine Ops_nil ?_
    refine then_n (k16 _ _ ?_)
    clear k16 K16
    refine W_seq_k fun K18 k18 => ?_
    refine W_region [21, 22, 9] rfl (Ops_step (R_move rfl) rfl rfl (Ops_step (R_max rfl rfl _root_.rfl) rfl rfl (Ops_step (R_assign rfl) rfl rfl ?_)))
    refine Ops_nil ?_
    refine then_n (k18 _ _ ?_)
    clear k18 K18
    refine W_keepB [5, 8, 9, 15, 16, 17] fun B_ b_ => ?_
    simp only [e_, Nat.reduceAdd, Nat.reduceBEq] at b_
    subst b_
    refine ex_ h fun dt bp h => ?_
    refine W_seq_join [5, 8, 15, 16, 17] [] (fun vals_ w2 => ∃ (ag : Arr 8 UInt8) (L H : Gh), vals_ = [] ∧ dt ag ∧ Inv [] G w L H w2 ∧ Le c8 L ∧ Le cx H ∧ Tok H w2 bi 123 (ag.l.map vb) ∧ ag.l.length = 8 ∧ OwnS w.heap.size 5 Gh.no H w2 a9 ba az ∧ True) (fun B_ b_ => ?_) (fun B_ b_ => ?_)
    ·
     simp only [e_, Nat.reduceAdd, Nat.reduceBEq] at b_
     subst b_
     clear bp
     have an := Le.refl c8
     have al := Le.refl cx
     refine W_seq_k fun K21 k21 => ?_
     refine W_region [23] rfl (Ops_step (R_move rfl) rfl rfl ?_)
     refine Ops_nil ?_
     refine then_n (k21 _ _ ?_)
     clear k21 K21
     refine W_block ?_
     refine Exists.elim h fun du h => Exists.elim h fun dv h => ?_
     have b6 := h.1
     have b8 := h.2
     clear h
     refine W_loopB [5, 8, 15, 16, 17] [9, 23] (fun m vals_ w2 => ∃ (au : Int) (ao : Int) (ac : Arr 8 UInt8) (L H : Gh), vals_ = [vi au, vi ao] ∧ du m au ao ac ∧ Inv [] G w L H w2 ∧ Le c8 L ∧ Le cx H ∧ Tok H w2 bi 123 (ac.l.map vb) ∧ ac.l.length = 8 ∧ OwnS w.heap.size 5 Gh.no H w2 a9 ba az ∧ True) dv _ rfl ⟨(max dr 0), 0, (Arr.mk (n := 8) (List.replicate 8 (0 : UInt8))), _, _, rfl, b6, hI, Le.refl _, Le.refl _, dd, (List.length_replicate ..), ae, trivial⟩ fun B_ b_ => ?_
     clear b6
     simp only [e_, Nat.reduceAdd, Nat.reduceBEq] at b_
     subst b_
     clear ae
     rintro dw _ en ⟨au, ao, ac, eo, dx, rfl, b9, ca, av, aq, ab, ap, ae, -⟩
     replace hI := ca
     clear ca
     have h := b8 dw au ao ac b9
     clear b8 b9
     replace hs1 := hs1.up aq
     replace ai := ai.trans av
     replace aj := aj.trans aq
     replace am := am.trans av
     replace ak := ak.trans aq
     replace af := af.trans av
     replace ad := ad.trans aq
     replace an := an.trans av
     replace al := al.trans aq
     refine W_seq_k fun K23 k23 => ?_
     refine W_region [24] rfl (Ops_step (R_lss rfl rfl) rfl rfl ?_)
     refine Ops_nil ?_
     refine then_n (k23 _ _ ?_)
     clear k23 K23
     refine W_seq_k fun K24 k24 => ?_
     refine W_if rfl (fun bq => ?_) (fun bq => ?_)
     ·
      replace h := h.1 bq
      refine W_skip ?_
      refine then_n (k24 _ _ ?_)
      clear k24 K24
      refine W_seq_k fun K26 k26 => ?_
      refine W_block ?_
      refine W_seq_k fun K27 k27 => ?_
      refine W_region [25, 10] rfl (Ops_step (R_move rfl) rfl rfl (Ops_step (R_assign rfl) rfl rfl ?_))
      refine Ops_nil ?_
      refine then_n (k27 _ _ ?_)
      clear k27 K27
      refine W_seq_k fun K28 k28 => ?_
      refine W_region [26, 27, 28, 29, 30, 31, none] rfl (Ops_step (R_move rfl) rfl rfl ?_)
      have cb := h.1
      replace h := h.2
      refine Ops_step (R_sub rfl rfl (wI cb.1 cb.2)) rfl rfl (Ops_step (R_move rfl) rfl rfl (Ops_step (R_rem rfl rfl (by decide) _root_.rfl) rfl rfl (Ops_step (R_conv Try.underlying3 Try.underlying5 rfl (cI_8 _)) rfl rfl ?_)))
      refine ex_ h fun ep br h => ?_
      refine Ops_step (R_indexArr Try.underlying123 sz5 rfl rfl br.1 (br.ltn ap)) rfl rfl ?_
      refine Ops_to0 (R_store sz5 rfl rfl ab.blk (arr_lt br) rfl) rfl ?_
      rintro _ eq ⟨cc, bt⟩
      replace hI := hI.tok bt (out1 ab.out) (new1 bo)
      replace ae := ae.fr bt (ae.ne ab.blk (by decide))
      replace ab : Tok dx _ bi 123 ((Arr.mk (n := 8) (put ac.l (7 - ao) (UInt8.ofBitVec (BitVec.ofInt 8 (au.tmod 256))))).l.map vb) := ⟨cc.to arr_put, ab.out⟩
      clear bt cc
      refine Ops_nil ?_
      refine then_n (k28 _ _ ?_)
      clear k28 K28
      refine W_keepB [5, 8, 9, 15, 16, 17, 23] fun B_ b_ => ?_
      simp only [e_, Nat.reduceAdd, Nat.reduceBEq] at b_
      subst b_
      refine W_region [32, 33, 9] rfl (Ops_step (R_move rfl) rfl rfl ?_)
      have cd := h.1
      replace h := h.2
      refine Ops_step (R_quo rfl rfl (by decide) (wI cd.1 cd.2)) rfl rfl (Ops_step (R_assign rfl) rfl rfl ?_)
      refine Ops_nil ?_
      refine block_n ?_
      refine then_n (k26 _ _ ?_)
      clear k26 K26
      refine W_region [34, 23] rfl ?_
      have ce := h.1
      replace h := h.2
      refine Ops_step (R_add rfl rfl (wI ce.1 ce.2)) rfl rfl (Ops_step (R_move rfl) rfl rfl ?_)
      refine Ops_nil ?_
      refine then_n ?_
      exact h.elim fun m_ h => ⟨m_, _, h.1, rfl, ⟨(au.tdiv 256), (ao + 1), (Arr.mk (n := 8) (put ac.l (7 - ao) (UInt8.ofBitVec (BitVec.ofInt 8 (au.tmod 256))))), _, _, rfl, h.2, hI, av, aq, ab, (put_len ap), ae, trivial⟩, ⟨rfl, rfl, rfl, rfl, rfl, trivial⟩⟩
     ·
      replace h := h.2 bq
      refine W_exit ?_
      refine then_exit ?_
      clear k24 K24
      refine then_exit ?_
      refine block_exit ?_
      refine then_n ?_
      exact ⟨_, rfl, ⟨ac, _, _, rfl, h, hI, an, al, ab, ap, ae, trivial⟩, ⟨rfl, rfl, rfl, rfl, rfl, trivial⟩⟩
    ·
     simp only [e_, Nat.reduceAdd, Nat.reduceBEq] at b_
     subst b_
     clear h
     clear ae
     rintro _ et ⟨ag, dy, dz, rfl, cf, cg, an, al, aa, bc, ae, -⟩
     replace hI := cg
     clear cg
     have h := bp ag cf
     clear bp cf
     replace hs1 := hs1.up al
     replace ai := ai.trans an
     replace aj := aj.trans al
     replace am := am.trans an
     replace ak := ak.trans al
     replace af := af.trans an
     replace ad := ad.trans al
     refine W_seq_k fun K35 k35 => ?_
     refine W_region [35] rfl (Ops_step (R_move rfl) rfl rfl ?_)
     refine Ops_nil ?_
     refine then_n (k35 _ _ ?_)
     clear k35 K35
     refine W_block ?_
     refine Exists.elim h fun d5 h => Exists.elim h fun d6 h => ?_
     have b6 := h.1
     have ci := h.2
     clear h
     refine W_loopB [8, 15, 16, 17] [5, 35] (fun m vals_ w2 => ∃ (ar : List UInt8) (a7 : Option Addr) (a8 : Nat) (aw : Int) (L H : Gh), vals_ = [.slice a7 ar.length a8, vi aw] ∧ d5 m ar aw ∧ Inv [] G w L H w2 ∧ Le dy L ∧ Le dz H ∧ OwnS w.heap.size 5 Gh.no H w2 a7 a8 ar ∧ Tok H w2 bi 123 (ag.l.map vb) ∧ True) d6 _ rfl ⟨az, a9, ba, 0, _, _, rfl, b6, hI, Le.refl _, Le.refl _, ae, aa, trivial⟩ fun B_ b_ => ?_
     clear b6
     simp only [e_, Nat.reduceAdd, Nat.reduceBEq] at b_
     subst b_
     clear aa
     rintro d7 _ eu ⟨ar, a7, a8, aw, ew, d8, rfl, cj, ck, a4, ax, ah, aa, -⟩
     replace hI := ck
     clear ck
     have h := ci d7 ar aw cj
     clear ci cj
     replace hs1 := hs1.up ax
     replace ai := ai.trans a4
     replace aj := aj.trans ax
     replace am := am.trans a4
     replace ak := ak.trans ax
     replace af := af.trans a4
     replace ad := ad.trans ax
     refine W_seq_k fun K37 k37 => ?_
     refine W_region [36] rfl (Ops_step (R_lss rfl rfl) rfl rfl ?_)
     refine Ops_nil ?_
     refine then_n (k37 _ _ ?_)
     clear k37 K37
     refine W_seq_k fun K38 k38 => ?_
     refine W_if rfl (fun bu => ?_) (fun bu => ?_)
     ·
      replace h := h.1 bu
      refine W_skip ?_
      refine then_n (k38 _ _ ?_)
      clear k38 K38
      refine W_seq_k fun K40 k40 => ?_
      refine W_block ?_
      refine W_seq_k fun K41 k41 => ?_
      refine W_region [37, 11] rfl (Ops_step (R_move rfl) rfl rfl (Ops_step (R_assign rfl) rfl rfl ?_))
      refine Ops_nil ?_
      refine then_n (k41 _ _ ?_)
      clear k41 K41
      refine W_region [38, 39, 40, 41, 42, 43, 5] rfl (Ops_step (R_move rfl) rfl rfl (Ops_step (R_move rfl) rfl rfl ?_))
      refine ex_ h fun cu bv h => ?_
      refine Ops_step (R_indexArr Try.underlying123 sz5 rfl rfl bv.1 (bv.ltn bc)) rfl rfl (Ops_step (R_loadB ag5 rfl aa.blk (arr_at bv)) rfl rfl ?_)
      have a5 := ah.lt
      refine Ops_to (R_buildSlice el29 zr5 (by decide) (by decide) rfl rfl) rfl rfl ?_
      rintro _ ex ⟨de, rfl, df, cl, bg⟩
      have dg : OwnS w.heap.size 5 Gh.no d8 _ (some ⟨de, 0, none⟩) 1 ([cu] : List UInt8) := OwnS.ofBlk hI.st df cl (all2_sc' _) rfl (by have := hI.size; omega) (by show 1 ≤ maxLen; decide)
      replace hI := hI.fr0 bg
      replace aa := aa.fr0 bg
      replace ah := ah.fr0 bg
      clear bg cl
      have b5 : ∀ i ∈ bk (some ⟨de, 0, none⟩) 1, i ∉ bk a7 a8 := sep_new (fun i_ hi_ => by have := (bk_of hi_).1; simp only [blkOf, List.mem_singleton] at this; omega) a5
      have dh := h.1
      replace h := h.2
      refine Ops_to (X_append (α := UInt8) (xs := ar) (ys := ([cu] : List UInt8)) el29 rfl rfl ah (Srcs.sc (Srcs.ofOwn Try.underlying29 dg (by decide))) hI.st dh (by decide) hI.size) rfl rfl ?_
      rintro _ ey ⟨d9, ea, rfl, di, bw, cv⟩
      clear cv
      replace hI := hI.tok bw ah.out (ah.new (Nat.le_refl _))
      replace aa := aa.fr bw (aa.sep ah (by decide))
      clear bw ah
      refine Ops_step (R_assign rfl) rfl rfl ?_
      refine Ops_nil ?_
      refine block_n ?_
      refine then_n (k40 _ _ ?_)
      clear k40 K40
      refine W_keepB [5, 8, 15, 16, 17, 35] fun B_ b_ => ?_
      simp only [e_, Nat.reduceAdd, Nat.reduceBEq] at b_
      subst b_
      refine W_region [44, 35] rfl ?_
      have cm := h.1
      replace h := h.2
      refine Ops_step (R_add rfl rfl (wI cm.1 cm.2)) rfl rfl (Ops_step (R_move rfl) rfl rfl ?_)
      refine Ops_nil ?_
      refine then_n ?_
      exact h.elim fun m_ h => ⟨m_, _, h.1, rfl, ⟨(ar ++ ([cu] : List UInt8)), d9, ea, (aw + 1), _, _, rfl, h.2, hI, a4, ax, di, aa, trivial⟩, ⟨rfl, rfl, rfl, rfl, trivial⟩⟩
     ·
      replace h := h.2 bu
      refine W_exit ?_
      refine then_exit ?_
      clear k38 K38
      refine then_exit ?_
      refine block_exit ?_
      refine block_n ?_
      refine then_n ?_
      exact ⟨_, rfl, ⟨ar, a7, a8, _, _, rfl, h, hI, af, ad, ah, trivial⟩, ⟨rfl, rfl, rfl, trivial⟩⟩
   ·
    simp only [e_, Nat.reduceAdd, Nat.reduceBEq] at b_
    subst b_
    clear h
    rintro _ ez ⟨ay, bd, be, e5, e8, rfl, co, cp, af, ad, cw, -⟩
    replace hI := cp
    clear cp
    have h := bl ay co
    clear bl co
    replace hs1 := hs1.up ad
    replace ai := ai.trans af
    replace aj := aj.trans ad
    replace am := am.trans af
    replace ak := ak.trans ad
    refine W_region [45, 17] rfl ?_
    have cq := h.1
    replace h := h.2
    refine Ops_step (R_add rfl rfl (wI cq.1 cq.2)) rfl rfl (Ops_step (R_move rfl) rfl rfl ?_)
    refine Ops_nil ?_
    refine then_n ?_
    exact h.elim fun m_ h => ⟨m_, _, h.1, rfl, ⟨ay, bd, be, (a6 + 1), _, _, rfl, h.2, hI, am, ak, cw, trivial⟩, ⟨rfl, rfl, trivial⟩⟩
  ·
   replace h := h.2 bj
   refine W_exit ?_
   refine then_exit ?_
   clear k11 K11
   refine then_exit ?_
   refine block_exit ?_
   refine then_n ?_
   exact ⟨_, rfl, ⟨az, a9, ba, _, _, rfl, h, hI, ai, aj, ae, trivial⟩, trivial⟩
 ·
  simp only [e_, Nat.reduceAdd, Nat.reduceBEq] at b_
  subst b_
  clear h
  rintro _ fc ⟨bh, bz, b4, fd, fe, rfl, dj, dk, ai, aj, dl, -⟩
  replace hI := dk
  clear dk
  have h := cr bh dj
  clear cr dj
  refine W_seq_k fun K49 k49 => ?_
  refine W_region [46, 4] rfl (Ops_step (R_move rfl) rfl rfl (Ops_step (R_assign rfl) rfl rfl ?_))
  refine Ops_nil ?_
  refine then_n (k49 _ _ ?_)
  clear k49 K49
  refine W_ret ?_
  refine ⟨_, ⟨_, _, rfl, rfl, rfl⟩, ?_⟩
  exact ⟨bz, b4, bh, _, _, rfl, hI, (dl.hl (Le.no _)), h⟩

theorem sealskinref02_PutBytes_ok {G : Gh} {w : World} (hS : St G w) (hg : GL G) {A0 : Option Addr} {c0 : Nat} {x0 : List UInt8} (hc0 : x0.length ≤ c0) (hs0 : Sl G A0 x0) {A1 : Option Addr} {c1 : Nat} {x1 : List UInt8} (hc1 : x1.length ≤ c1) (hs1 : Sl G A1 x1) {Q : (List UInt8) → Prop} (h : sealskinref02_PutBytes x0 x1 Q) : Calls Try.prog 78 #[.slice A0 x0.length c0, .slice A1 x1.length c1] w fun e w2 => ∃ (A0 : Option Addr) (c0 : Nat) (r0 : List UInt8) (L H : Gh), e = .returned (.slice A0 r0.length c0) ∧ Inv [] G w L H w2 ∧ OwnS w.heap.size 5 L H w2 A0 c0 r0 ∧ Q r0 := by
 unfold sealskinref02_PutBytes at h
 have hI := Inv.start (M := []) hS
 refine calls_W 12 Try.func78 rfl Try.ntmps78 rfl [.tmp 4] rfl ?_
 refine W_seq_k fun K1 k1 => ?_
 refine W_region [4] rfl (Ops_step (R_assign rfl) rfl rfl ?_)
 refine Ops_nil ?_
 refine then_n (k1 _ _ ?_)
 clear k1 K1
 refine W_seq_k fun K2 k2 => ?_
 refine W_region [5, 6, 7, 8, 9, 10, 11, 4] rfl (Ops_step (R_move rfl) rfl rfl (Ops_step (R_move rfl) rfl rfl (Ops_step (R_len Try.underlying29 rfl rfl) rfl rfl ?_)))
 refine Ops_to (R_buildSlice el116 zr3 (by decide) (by decide) rfl rfl) rfl rfl ?_
 rintro _ a5 ⟨au, rfl, aj, ad, ae⟩
 have ak : OwnS w.heap.size 3 Gh.no G _ (some ⟨au, 0, none⟩) 1 ([(x1.length : Int)] : List Int) := OwnS.ofBlk hI.st aj ad (all2_sc' _) rfl (by have := hI.size; omega) (by show 1 ≤ maxLen; decide)
 replace hI := hI.fr0 ae
 clear ae ad
 refine Exists.elim (ak.lend hI.st (Le.no _)) fun al aa => ?_
 refine Ops_call (C_func bd77 rfl) rfl rfl ?_
 refine (sealskinref02_Put_ok (x0 := x0) (x1 := ([(x1.length : Int)] : List Int)) aa.1 (hg.up (hI.le.trans aa.2.1)) hc0 (hs0.up aa.2.1) (Nat.le_refl _) aa.2.2 h).mono ?_
 rintro _ a6 ⟨av, aw, af, a7, a8, rfl, ag, ab, h⟩
 refine Exists.elim (hI.callB aa.2.1 ag (by simp)) fun ax ac => Exists.elim ac fun ay ac => ?_
 have am := hI.size
 replace hI := ac.1
 have ar := ac.2.1
 have an := ac.2.2.1
 have ao := ac.2.2.2
 clear ac
 replace hs1 := hs1.up ar.hh
 replace ab := OwnS.backS ab am ao
 clear ag ar an
 refine ⟨_, rfl, ?_⟩
 refine Ops_step (R_move rfl) rfl rfl ?_
 have ap := h.1
 replace h := h.2
 refine Ops_to (X_append (α := UInt8) (xs := af) (ys := x1) el29 rfl rfl ab (Srcs.sc (Srcs.ofSl Try.underlying29 hs1 hI.st (by decide))) hI.st ap (by decide) hI.size) rfl rfl ?_
 rintro _ a9 ⟨az, a4, rfl, aq, ah, ai⟩
 clear ai
 replace hI := hI.tok ah ab.out (ab.new (Nat.le_refl _))
 clear ah ab
 refine Ops_step (R_assign rfl) rfl rfl ?_
 refine Ops_nil ?_
 refine then_n (k2 _ _ ?_)
 clear k2 K2
 refine W_keepB [4] fun B_ b_ => ?_
 simp only [e_, Nat.reduceAdd, Nat.reduceBEq] at b_
 subst b_
 refine W_ret ?_
 refine ⟨_, ⟨_, _, rfl, rfl, rfl⟩, ?_⟩
 exact ⟨az, a4, (af ++ x1), _, _, rfl, hI, (aq.hl (Le.no _)), h⟩

theorem sealskinref02_Sum_ok {G : Gh} {w : World} (hS : St G w) (hg : GL G) {A0 : Option Addr} {c0 : Nat} {x0 : List UInt8} (hc0 : x0.length ≤ c0) (hs0 : Sl G A0 x0) {Q : (BitVec 32) → Prop} (h : sealskinref02_Sum x0 Q) : Calls Try.prog 92 #[.slice A0 x0.length c0] w fun e w2 => ∃ (r0 : BitVec 32) (L H : Gh), e = .returned (w32 r0) ∧ Inv [] G w L H w2 ∧ Q r0 := by
 unfold sealskinref02_Sum at h
 have hI := Inv.start (M := []) hS
 refine calls_W 30 Try.func92 rfl Try.ntmps92 rfl [.tmp 2] rfl ?_
 refine W_seq_k fun K1 k1 => ?_
 refine W_region [2] rfl (Ops_step (R_assign rfl) rfl rfl ?_)
 refine Ops_nil ?_
 refine then_n (k1 _ _ ?_)
 clear k1 K1
 refine W_seq_k fun K2 k2 => ?_
 refine W_region [3] rfl (Ops_step (R_assign rfl) rfl rfl ?_)
 refine Ops_nil ?_
 refine then_n (k2 _ _ ?_)
 clear k2 K2
 refine ex_ h fun bx a8 h => ?_
 refine W_seq_join [] [3] (fun vals_ w2 => ∃ (ap : BitVec 32) (L H : Gh), vals_ = [w32 ap] ∧ bx ap ∧ Inv [] G w L H w2 ∧ Le Gh.no L ∧ Le G H ∧ True) (fun B_ b_ => ?_) (fun B_ b_ => ?_)
 ·
  simp only [e_, Nat.reduceAdd, Nat.reduceBEq] at b_
  subst b_
  clear a8
  have ab := Le.refl Gh.no
  have ac := Le.refl G
  refine W_seq_k fun K4 k4 => ?_
  refine W_region [7, 8, 9] rfl (Ops_step (R_move rfl) rfl rfl (Ops_step (R_len Try.underlying29 rfl rfl) rfl rfl (Ops_step (R_move rfl) rfl rfl ?_)))
  refine Ops_nil ?_
  refine then_n (k4 _ _ ?_)
  clear k4 K4
  refine W_block ?_
  refine Exists.elim h fun bz h => Exists.elim h fun b4 h => ?_
  have bd := h.1
  have be := h.2
  clear h
  refine W_loopB [7, 8] [3, 9] (fun m vals_ w2 => ∃ (an : BitVec 32) (aq : Int) (L H : Gh), vals_ = [w32 an, vi aq] ∧ bz m an aq ∧ Inv [] G w L H w2 ∧ Le Gh.no L ∧ Le G H ∧ True) b4 _ rfl ⟨(4294967295#32), 0, _, _, rfl, bd, hI, Le.refl _, Le.refl _, trivial⟩ fun B_ b_ => ?_
  clear bd
  simp only [e_, Nat.reduceAdd, Nat.reduceBEq] at b_
  subst b_
  rintro b5 _ cb ⟨an, aq, bq, br, rfl, bf, bg, aj, af, -⟩
  replace hI := bg
  clear bg
  have h := be b5 an aq bf
  clear be bf
  replace hs0 := hs0.up af
  replace ab := ab.trans aj
  replace ac := ac.trans af
  refine W_seq_k fun K6 k6 => ?_
  refine W_region [10] rfl (Ops_step (R_lss rfl rfl) rfl rfl ?_)
  refine Ops_nil ?_
  refine then_n (k6 _ _ ?_)
  clear k6 K6
  refine W_seq_k fun K7 k7 => ?_
  refine W_if rfl (fun a9 => ?_) (fun a9 => ?_)
  ·
   replace h := h.1 a9
   refine W_skip ?_
   refine then_n (k7 _ _ ?_)
   clear k7 K7
   refine ex_ h fun b6 ba h => ?_
   refine W_seq_join [7, 8, 9] [3] (fun vals_ w2 => ∃ (ar : BitVec 32) (L H : Gh), vals_ = [w32 ar] ∧ b6 ar ∧ Inv [] G w L H w2 ∧ Le bq L ∧ Le br H ∧ True) (fun B_ b_ => ?_) (fun B_ b_ => ?_)
   ·
    simp only [e_, Nat.reduceAdd, Nat.reduceBEq] at b_
    subst b_
    clear ba
    have ak := Le.refl bq
    have ag := Le.refl br
    refine W_block ?_
    refine W_seq_k fun K10 k10 => ?_
    refine W_region [11, 12, 5] rfl ?_
    refine ex_ h fun bc ao h => ?_
    have bh := (hs0.atS ao).1
    have bi := (hs0.atS ao).2
    refine Ops_step (R_indexSl Try.underlying29 sz5 rfl rfl ao.1 ao.lt bh) rfl rfl (Ops_step (R_load ag5 rfl (hI.st _ _ bi)) rfl rfl (Ops_step (R_assign rfl) rfl rfl ?_))
    refine Ops_nil ?_
    refine then_n (k10 _ _ ?_)
    clear k10 K10
    refine W_seq_k fun K12 k12 => ?_
    refine W_region [13, 14, 15, 16, 17, 3] rfl (Ops_step (R_move rfl) rfl rfl (Ops_step (R_move rfl) rfl rfl (Ops_step (R_conv Try.underlying5 Try.underlying124 rfl (c8_32 _)) rfl rfl (Ops_step (R_mul rfl rfl (mul32 (bc.toBitVec.setWidth 32) (16777216#32))) rfl rfl ?_))))
    refine Ops_step (R_xor rfl rfl (xor32 an ((bc.toBitVec.setWidth 32) * (16777216#32)))) rfl rfl (Ops_step (R_assign rfl) rfl rfl ?_)
    refine Ops_nil ?_
    refine then_n (k12 _ _ ?_)
    clear k12 K12
    refine W_keepB [3, 7, 8, 9] fun B_ b_ => ?_
    simp only [e_, Nat.reduceAdd, Nat.reduceBEq] at b_
    subst b_
    refine W_seq_k fun K14 k14 => ?_
    refine W_region [18] rfl (Ops_step (R_move rfl) rfl rfl ?_)
    refine Ops_nil ?_
    refine then_n (k14 _ _ ?_)
    clear k14 K14
    refine W_block ?_
    refine Exists.elim h fun bt h => Exists.elim h fun bu h => ?_
    have bd := h.1
    have ax := h.2
    clear h
    refine W_loopB [7, 8, 9] [3, 18] (fun m vals_ w2 => ∃ (ah : BitVec 32) (al : Int) (L H : Gh), vals_ = [w32 ah, vi al] ∧ bt m ah al ∧ Inv [] G w L H w2 ∧ Le bq L ∧ Le br H ∧ True) bu _ rfl ⟨(an ^^^ ((bc.toBitVec.setWidth 32) * (16777216#32))), 0, _, _, rfl, bd, hI, Le.refl _, Le.refl _, trivial⟩ fun B_ b_ => ?_
    clear bd
    simp only [e_, Nat.reduceAdd, Nat.reduceBEq] at b_
    subst b_
    rintro bv _ b7 ⟨ah, al, bj, bl, rfl, ay, az, ai, ad, -⟩
    replace hI := az
    clear az
    have h := ax bv ah al ay
    clear ax ay
    replace hs0 := hs0.up ad
    replace ab := ab.trans ai
    replace ac := ac.trans ad
    replace aj := aj.trans ai
    replace af := af.trans ad
    replace ak := ak.trans ai
    replace ag := ag.trans ad
    refine W_seq_k fun K16 k16 => ?_
    refine W_region [19] rfl (Ops_step (R_lss rfl rfl) rfl rfl ?_)
    refine Ops_nil ?_
    refine then_n (k16 _ _ ?_)
    clear k16 K16
    refine W_seq_k fun K17 k17 => ?_
    refine W_if rfl (fun au => ?_) (fun au => ?_)
    ·
     replace h := h.1 au
     refine W_skip ?_
     refine then_n (k17 _ _ ?_)
     clear k17 K17
     refine ex_ h fun bw av h => ?_
     refine W_seq_join [7, 8, 9, 18] [3] (fun vals_ w2 => ∃ (am : BitVec 32) (L H : Gh), vals_ = [w32 am] ∧ bw am ∧ Inv [] G w L H w2 ∧ Le bj L ∧ Le bl H ∧ True) (fun B_ b_ => ?_) (fun B_ b_ => ?_)
     ·
      simp only [e_, Nat.reduceAdd, Nat.reduceBEq] at b_
      subst b_
      clear av
      have ae := Le.refl bj
      have aa := Le.refl bl
      refine W_block ?_
      refine W_seq_k fun K20 k20 => ?_
      refine W_region [20, 21, 6] rfl (Ops_step (R_move rfl) rfl rfl (Ops_step (R_geq rfl rfl) rfl rfl (Ops_step (R_assign rfl) rfl rfl ?_)))
      refine Ops_nil ?_
      refine then_n (k20 _ _ ?_)
      clear k20 K20
      refine W_seq_k fun K21 k21 => ?_
      refine W_region [22, 23, 3] rfl (Ops_step (R_move rfl) rfl rfl (Ops_step (R_mul rfl rfl (mul32 (2#32) ah)) rfl rfl (Ops_step (R_assign rfl) rfl rfl ?_)))
      refine Ops_nil ?_
      refine then_n (k21 _ _ ?_)
      clear k21 K21
      refine W_seq_k fun K22 k22 => ?_
      refine W_region [24] rfl (Ops_step (R_move rfl) rfl rfl ?_)
      refine Ops_nil ?_
      refine then_n (k22 _ _ ?_)
      clear k22 K22
      refine W_keepB [3, 7, 8, 9, 18, 24] fun B_ b_ => ?_
      simp only [e_, Nat.reduceAdd, Nat.reduceBEq] at b_
      subst b_
      refine W_if rfl (fun aw => ?_) (fun aw => ?_)
      ·
       replace h := h.1 aw
       refine W_region [25, 26, 3] rfl (Ops_step (R_move rfl) rfl rfl (Ops_step (R_xor rfl rfl (xor32 ((2#32) * ah) (2168537515#32))) rfl rfl (Ops_step (R_assign rfl) rfl rfl ?_)))
       refine Ops_nil ?_
       refine block_n ?_
       refine then_n ?_
       exact ⟨_, rfl, ⟨(((2#32) * ah) ^^^ (2168537515#32)), _, _, rfl, h, hI, ae, aa, trivial⟩, ⟨rfl, rfl, rfl, rfl, trivial⟩⟩
      ·
       replace h := h.2 aw
       refine W_skip ?_
       refine block_n ?_
       refine then_n ?_
       exact ⟨_, rfl, ⟨((2#32) * ah), _, _, rfl, h, hI, ae, aa, trivial⟩, ⟨rfl, rfl, rfl, rfl, trivial⟩⟩
     ·
      simp only [e_, Nat.reduceAdd, Nat.reduceBEq] at b_
      subst b_
      clear h
      rintro _ b8 ⟨am, b9, ca, rfl, a4, a5, ae, aa, -⟩
      replace hI := a5
      clear a5
      have h := av am a4
      clear av a4
      replace hs0 := hs0.up aa
      replace ab := ab.trans ae
      replace ac := ac.trans aa
      replace aj := aj.trans ae
      replace af := af.trans aa
      replace ak := ak.trans ae
      replace ag := ag.trans aa
      replace ai := ai.trans ae
      replace ad := ad.trans aa
      refine W_region [27, 18] rfl ?_
      have a6 := h.1
      replace h := h.2
      refine Ops_step (R_add rfl rfl (wI a6.1 a6.2)) rfl rfl (Ops_step (R_move rfl) rfl rfl ?_)
      refine Ops_nil ?_
      refine then_n ?_
      exact h.elim fun m_ h => ⟨m_, _, h.1, rfl, ⟨am, (al + 1), _, _, rfl, h.2, hI, ai, ad, trivial⟩, ⟨rfl, rfl, rfl, trivial⟩⟩
    ·
     replace h := h.2 au
     refine W_exit ?_
     refine then_exit ?_
     clear k17 K17
     refine then_exit ?_
     refine block_exit ?_
     refine block_n ?_
     refine then_n ?_
     exact ⟨_, rfl, ⟨ah, _, _, rfl, h, hI, ak, ag, trivial⟩, ⟨rfl, rfl, rfl, trivial⟩⟩
   ·
    simp only [e_, Nat.reduceAdd, Nat.reduceBEq] at b_
    subst b_
    clear h
    rintro _ cc ⟨ar, cd, ce, rfl, bm, bn, ak, ag, -⟩
    replace hI := bn
    clear bn
    have h := ba ar bm
    clear ba bm
    replace hs0 := hs0.up ag
    replace ab := ab.trans ak
    replace ac := ac.trans ag
    replace aj := aj.trans ak
    replace af := af.trans ag
    refine W_region [28, 9] rfl ?_
    have a7 := h.1
    replace h := h.2
    refine Ops_step (R_add rfl rfl (wI a7.1 a7.2)) rfl rfl (Ops_step (R_move rfl) rfl rfl ?_)
    refine Ops_nil ?_
    refine then_n ?_
    exact h.elim fun m_ h => ⟨m_, _, h.1, rfl, ⟨ar, (aq + 1), _, _, rfl, h.2, hI, aj, af, trivial⟩, ⟨rfl, rfl, trivial⟩⟩
  ·
   replace h := h.2 a9
   refine W_exit ?_
   refine then_exit ?_
   clear k7 K7
   refine then_exit ?_
   refine block_exit ?_
   refine then_n ?_
   exact ⟨_, rfl, ⟨an, _, _, rfl, h, hI, ab, ac, trivial⟩, trivial⟩
 ·
  simp only [e_, Nat.reduceAdd, Nat.reduceBEq] at b_
  subst b_
  clear h
  rintro _ cf ⟨ap, cg, ci, rfl, bo, bp, ab, ac, -⟩
  replace hI := bp
  clear bp
  have h := a8 ap bo
  clear a8 bo
  refine W_seq_k fun K27 k27 => ?_
  refine W_region [29, 2] rfl (Ops_step (R_move rfl) rfl rfl (Ops_step (R_assign rfl) rfl rfl ?_))
  refine Ops_nil ?_
  refine then_n (k27 _ _ ?_)
  clear k27 K27
  refine W_ret ?_
  refine ⟨_, ⟨_, _, rfl, rfl, rfl⟩, ?_⟩
  exact ⟨ap, _, _, rfl, hI, h⟩

theorem sealskinref02_Seal_ok {G : Gh} {w : World} (hS : St G w) (hg : GL G) {A0 : Option Addr} {c0 : Nat} {x0 : List UInt8} (hc0 : x0.length ≤ c0) (hs0 : Sl G A0 x0) {Q : (List UInt8) → Int → Prop} (h : sealskinref02_Seal x0 Q) : Calls Try.prog 87 #[.slice A0 x0.length c0] w fun e w2 => ∃ (A0 : Option Addr) (c0 : Nat) (r0 : List UInt8) (r1 : Int) (L H : Gh), e = .returned (.tuple #[.slice A0 r0.length c0, vi r1]) ∧ Inv [] G w L H w2 ∧ OwnS w.heap.size 5 L H w2 A0 c0 r0 ∧ Q r0 r1 := by
 unfold sealskinref02_Seal at h
 have hI := Inv.start (M := []) hS
 refine calls_W 27 Try.func87 rfl Try.ntmps87 rfl [.tmp 2, .tmp 3] rfl ?_
 refine W_seq_k fun K1 k1 => ?_
 refine W_region [2, 3] rfl (Ops_step (R_assign rfl) rfl rfl (Ops_step (R_assign rfl) rfl rfl ?_))
 refine Ops_nil ?_
 refine then_n (k1 _ _ ?_)
 clear k1 K1
 refine W_seq_k fun K2 k2 => ?_
 refine W_seq_k fun K3 k3 => ?_
 refine W_region [6, 7, 8] rfl (Ops_step (R_move rfl) rfl rfl (Ops_step (R_len Try.underlying29 rfl rfl) rfl rfl (Ops_step (R_gtr rfl rfl) rfl rfl ?_)))
 refine Ops_nil ?_
 refine then_n (k3 _ _ ?_)
 clear k3 K3
 refine W_if rfl (fun ak => ?_) (fun ak => ?_)
 ·
  replace h := h.1 ak
  refine W_seq_k fun K5 k5 => ?_
  refine W_region [2, 3] rfl (Ops_step (R_assign rfl) rfl rfl (Ops_step (R_assign rfl) rfl rfl ?_))
  refine Ops_nil ?_
  refine then_n (k5 _ _ ?_)
  clear k5 K5
  refine W_ret ?_
  refine then_ret ?_
  clear k2 K2
  refine ⟨_, ⟨_, _, rfl, rfl, ⟨_, _, rfl, rfl, rfl⟩⟩, ?_⟩
  exact ⟨none, 0, [], 4, _, _, rfl, hI, OwnS.nil, h⟩
 ·
  replace h := h.2 ak
  refine W_skip ?_
  refine then_n (k2 _ _ ?_)
  clear k2 K2
  refine W_seq_k fun K6 k6 => ?_
  refine W_region [9, 10, 4] rfl (Ops_step (R_move rfl) rfl rfl ?_)
  refine Ops_call (C_func bd78 rfl) rfl rfl ?_
  refine (sealskinref02_PutBytes_ok (x0 := []) (x1 := x0) hI.st (hg.up hI.le) (Nat.le_refl 0) Sl.nil hc0 hs0 h).mono ?_
  rintro _ bm ⟨a4, a5, al, bn, bo, rfl, an, ab, h⟩
  refine Exists.elim (hI.call an (by simp)) fun be ay => ?_
  have a6 := hI.size
  replace hI := ay.1
  have bf := ay.2.1
  have a7 := ay.2.2
  clear ay
  replace ab := OwnS.backS ab a6 (Le.refl _)
  clear an bf a7
  refine ⟨_, rfl, ?_⟩
  refine Ops_step (R_assign rfl) rfl rfl ?_
  refine Ops_nil ?_
  refine then_n (k6 _ _ ?_)
  clear k6 K6
  refine W_keepB [4] fun B_ b_ => ?_
  simp only [e_, Nat.reduceAdd, Nat.reduceBEq] at b_
  subst b_
  refine W_seq_k fun K9 k9 => ?_
  refine W_region [11, 12, 5] rfl (Ops_step (R_move rfl) rfl rfl ?_)
  refine Exists.elim (ab.lend hI.st (Le.no _)) fun az ac => ?_
  refine Ops_call (C_func bd92 rfl) rfl rfl ?_
  refine (sealskinref02_Sum_ok (x0 := al) ac.1 (hg.up (hI.le.trans ac.2.1)) ab.cap ac.2.2 h).mono ?_
  rintro _ bg ⟨aa, bh, bi, rfl, ag, h⟩
  refine Exists.elim (hI.callB ac.2.1 ag (by simp)) fun ba ae => Exists.elim ae fun ao ae => ?_
  have bc := hI.size
  replace hI := ae.1
  have ap := ae.2.1
  have aq := ae.2.2.1
  have bd := ae.2.2.2
  clear ae
  replace ab := ab.up (Le.refl _) ap (by simp)
  clear ag ap aq
  refine ⟨_, rfl, ?_⟩
  refine Ops_step (R_assign rfl) rfl rfl ?_
  refine Ops_nil ?_
  refine then_n (k9 _ _ ?_)
  clear k9 K9
  refine W_seq_k fun K11 k11 => ?_
  refine W_region [13, 14, 15, 16, 17, 18, 19, 20, 21, 22, 23, 24, 25, 26, 2, 3] rfl (Ops_step (R_move rfl) rfl rfl (Ops_step (R_move rfl) rfl rfl (Ops_step (R_quo rfl rfl (by decide) (quo32 aa (16777216#32))) rfl rfl (Ops_step (R_conv Try.underlying124 Try.underlying5 rfl (c32_8 _)) rfl rfl ?_))))
  refine Ops_step (R_move rfl) rfl rfl (Ops_step (R_quo rfl rfl (by decide) (quo32 aa (65536#32))) rfl rfl (Ops_step (R_conv Try.underlying124 Try.underlying5 rfl (c32_8 _)) rfl rfl (Ops_step (R_move rfl) rfl rfl (Ops_step (R_quo rfl rfl (by decide) (quo32 aa (256#32))) rfl rfl ?_))))
  refine Ops_step (R_conv Try.underlying124 Try.underlying5 rfl (c32_8 _)) rfl rfl (Ops_step (R_move rfl) rfl rfl (Ops_step (R_conv Try.underlying124 Try.underlying5 rfl (c32_8 _)) rfl rfl ?_))
  have ad := ab.lt
  refine Ops_to (R_buildSlice el29 zr5 (by decide) (by decide) rfl rfl) rfl rfl ?_
  rintro _ bj ⟨ar, rfl, au, ah, af⟩
  have av : OwnS w.heap.size 5 Gh.no ao _ (some ⟨ar, 0, none⟩) 4 ([(UInt8.ofBitVec ((aa / (16777216#32)).setWidth 8)), (UInt8.ofBitVec ((aa / (65536#32)).setWidth 8)), (UInt8.ofBitVec ((aa / (256#32)).setWidth 8)), (UInt8.ofBitVec (aa.setWidth 8))] : List UInt8) := OwnS.ofBlk hI.st au ah (all2_sc' _) rfl (by have := hI.size; omega) (by show 4 ≤ maxLen; decide)
  replace hI := hI.fr0 af
  replace ab := ab.fr0 af
  clear af ah
  have ai : ∀ i ∈ bk (some ⟨ar, 0, none⟩) 4, i ∉ bk a4 a5 := sep_new (fun i_ hi_ => by have := (bk_of hi_).1; simp only [blkOf, List.mem_singleton] at this; omega) ad
  have aw := h.1
  replace h := h.2
  refine Ops_to (X_append (α := UInt8) (xs := al) (ys := ([(UInt8.ofBitVec ((aa / (16777216#32)).setWidth 8)), (UInt8.ofBitVec ((aa / (65536#32)).setWidth 8)), (UInt8.ofBitVec ((aa / (256#32)).setWidth 8)), (UInt8.ofBitVec (aa.setWidth 8))] : List UInt8)) el29 rfl rfl ab (Srcs.sc (Srcs.ofOwn Try.underlying29 av (by decide))) hI.st aw (by decide) hI.size) rfl rfl ?_
  rintro _ bl ⟨a8, a9, rfl, ax, aj, am⟩
  clear am
  replace hI := hI.tok aj ab.out (ab.new (Nat.le_refl _))
  clear aj ab
  refine Ops_step (R_assign rfl) rfl rfl (Ops_step (R_assign rfl) rfl rfl ?_)
  refine Ops_nil ?_
  refine then_n (k11 _ _ ?_)
  clear k11 K11
  refine W_keepB [2, 3] fun B_ b_ => ?_
  simp only [e_, Nat.reduceAdd, Nat.reduceBEq] at b_
  subst b_
  refine W_ret ?_
  refine ⟨_, ⟨_, _, rfl, rfl, ⟨_, _, rfl, rfl, rfl⟩⟩, ?_⟩
  exact ⟨a8, a9, (al ++ ([(UInt8.ofBitVec ((aa / (16777216#32)).setWidth 8)), (UInt8.ofBitVec ((aa / (65536#32)).setWidth 8)), (UInt8.ofBitVec ((aa / (256#32)).setWidth 8)), (UInt8.ofBitVec (aa.setWidth 8))] : List UInt8)), 0, _, _, rfl, hI, (ax.hl (Le.no _)), h⟩

theorem sealskinref02_Open_ok {G : Gh} {w : World} (hS : St G w) (hg : GL G) {A0 : Option Addr} {c0 : Nat} {x0 : List UInt8} (hc0 : x0.length ≤ c0) (hs0 : Sl G A0 x0) {Q : (List UInt8) → Int → Int → Prop} (h : sealskinref02_Open x0 Q) : Calls Try.prog 71 #[.slice A0 x0.length c0] w fun e w2 => ∃ (A0 : Option Addr) (c0 : Nat) (r0 : List UInt8) (r1 : Int) (r2 : Int) (L H : Gh), e = .returned (.tuple #[.slice A0 r0.length c0, vi r1, vi r2]) ∧ Inv [] G w L H w2 ∧ OwnS w.heap.size 5 L H w2 A0 c0 r0 ∧ Q r0 r1 r2 := by
 unfold sealskinref02_Open at h
 have hI := Inv.start (M := []) hS
 refine calls_W 48 Try.func71 rfl Try.ntmps71 rfl [.tmp 2, .tmp 3, .tmp 4] rfl ?_
 refine W_seq_k fun K1 k1 => ?_
 refine W_region [2, 3, 4] rfl (Ops_step (R_assign rfl) rfl rfl (Ops_step (R_assign rfl) rfl rfl (Ops_step (R_assign rfl) rfl rfl ?_)))
 refine Ops_nil ?_
 refine then_n (k1 _ _ ?_)
 clear k1 K1
 refine W_seq_k fun K2 k2 => ?_
 refine W_region [9, 10, 11, 5] rfl (Ops_step (R_move rfl) rfl rfl ?_)
 refine Ops_step (R_build (pl := [(0, 1)]) (cs := [.slice A0 x0.length c0, vi 0, vi 0]) zr113 pl113 rfl rfl rfl) rfl rfl ?_
 have bh := hI
 refine Ops_to (R_box rfl) rfl rfl ?_
 rintro _ c8 ⟨ce, rfl, bi, bj, bl⟩
 replace hI := hI.fr0 bl
 have bm : Tok G _ ce 113 ([.slice A0 x0.length c0, vi 0, vi 0]) := ⟨bj.to rfl, Out.ge bh.st (Nat.le_of_eq bi.symm)⟩
 have az : w.heap.size ≤ ce := bi ▸ bh.size
 clear bj bi bh bl
 refine Ops_step (R_assign rfl) rfl rfl ?_
 refine Ops_nil ?_
 refine then_n (k2 _ _ ?_)
 clear k2 K2
 refine W_keepB [0, 5] fun B_ b_ => ?_
 simp only [e_, Nat.reduceAdd, Nat.reduceBEq] at b_
 subst b_
 refine W_seq_k fun K5 k5 => ?_
 refine W_region [12, 13, 6] rfl (Ops_step (R_move rfl) rfl rfl ?_)
 refine Ops_call (C_func bd75 rfl) rfl rfl ?_
 refine (sealskinref02_Reader_Bytes_ok (x1 := 16384) (z0 := (sealskinref02_Reader.mk x0 0 0)) hI.st (hg.up hI.le) bm hc0 hs0 h).mono ?_
 rintro _ c9 ⟨bn, bo, bp, ad, b4, b5, da, db, rfl, bq, ab, aa, ao, ac, h⟩
 refine Exists.elim (hI.call bq (new1 az)) fun cp b6 => ?_
 have b8 := hI.size
 replace hI := b6.1
 have cf := b6.2.1
 have b9 := b6.2.2
 clear b6
 replace hs0 := hs0.up cf.hh
 clear bm
 replace ab := OwnS.backS ab b8 (Le.refl _)
 clear bq cf b9
 refine ⟨_, rfl, ?_⟩
 refine Ops_step (R_assign rfl) rfl rfl ?_
 refine Ops_nil ?_
 refine then_n (k5 _ _ ?_)
 clear k5 K5
 refine W_seq_k fun K7 k7 => ?_
 refine W_seq_k fun K8 k8 => ?_
 refine W_region [14, 15, 16, 17, 18] rfl (Ops_step (R_move rfl) rfl rfl (Ops_step (R_nilCheck rfl) rfl rfl (Ops_step (R_fieldAddr fo113_2 rfl) rfl rfl ?_)))
 refine Ops_step (R_loadB (v := vi ad.E_) ag32 rfl aa.blk rfl) rfl rfl ?_
 refine Ops_step (R_neq rfl rfl) rfl rfl ?_
 refine Ops_nil ?_
 refine then_n (k8 _ _ ?_)
 clear k8 K8
 refine W_keepB [0, 5, 6, 18] fun B_ b_ => ?_
 simp only [e_, Nat.reduceAdd, Nat.reduceBEq] at b_
 subst b_
 refine W_if rfl (fun ap => ?_) (fun ap => ?_)
 ·
  replace h := h.1 ap
  refine W_seq_k fun K11 k11 => ?_
  refine W_drawF [19, 20, 21, 22, 2, 3, 4] [(0, true), (1, true), (2, true), (3, true), (4, true), (5, true), (6, true)] TJtH.hm rfl (by kernel_rfl) fun ca cq a4 aj => ?_
  replace hI := hI.fr0 aj
  replace aa := aa.fr0 aj
  replace ab := ab.fr0 aj
  clear aj
  refine HSp (R_move rfl) rfl rfl (HSp (R_nilCheck rfl) rfl rfl (HSp (R_fieldAddr fo113_2 rfl) rfl rfl ?_))
  refine HS_loadB (v := vi ad.E_) ag32 rfl aa.blk rfl rfl rfl ?_
  refine HSp (R_assign rfl) rfl rfl (HSp (R_assign rfl) rfl rfl (HSp (R_assign rfl) rfl rfl ?_))
  refine HS_nil ?_
  clear a4
  refine then_n (k11 _ _ ?_)
  clear k11 K11
  refine W_keepB [2, 3, 4] fun B_ b_ => ?_
  simp only [e_, Nat.reduceAdd, Nat.reduceBEq] at b_
  subst b_
  refine W_ret ?_
  refine then_ret ?_
  clear k7 K7
  refine ⟨_, ⟨_, _, rfl, rfl, ⟨_, _, rfl, rfl, ⟨_, _, rfl, rfl, rfl⟩⟩⟩, ?_⟩
  exact ⟨none, 0, [], 0, ad.E_, _, _, rfl, hI, OwnS.nil, h⟩
 ·
  replace h := h.2 ap
  refine W_skip ?_
  refine then_n (k7 _ _ ?_)
  clear k7 K7
  refine W_seq_k fun K14 k14 => ?_
  refine W_seq_k fun K15 k15 => ?_
  refine W_region [23, 24, 25] rfl (Ops_step (R_move rfl) rfl rfl ?_)
  refine Ops_call (C_func bd86 rfl) rfl rfl ?_
  refine (sealskinref02_Reader_Left_ok (z0 := ad) hI.st (hg.up hI.le) aa ao ac h).mono ?_
  rintro _ cr ⟨cg, ct, cu, rfl, a8, h⟩
  refine Exists.elim (hI.call a8 (by simp)) fun ci a5 => ?_
  have cj := hI.size
  replace hI := a5.1
  have aq := a5.2.1
  have br := a5.2.2
  clear a5
  replace hs0 := hs0.up aq.hh
  replace aa := aa.up aq (by simp)
  replace ac := ac.up aq.hh
  replace ab := ab.up (Le.refl _) aq (by simp)
  clear a8 aq br
  refine ⟨_, rfl, ?_⟩
  refine Ops_step (R_lss rfl rfl) rfl rfl ?_
  refine Ops_nil ?_
  refine then_n (k15 _ _ ?_)
  clear k15 K15
  refine W_if rfl (fun ar => ?_) (fun ar => ?_)
  ·
   replace h := h.1 ar
   refine W_seq_k fun K18 k18 => ?_
   refine W_region [2, 3, 4] rfl (Ops_step (R_assign rfl) rfl rfl (Ops_step (R_assign rfl) rfl rfl (Ops_step (R_assign rfl) rfl rfl ?_)))
   refine Ops_nil ?_
   refine then_n (k18 _ _ ?_)
   clear k18 K18
   refine W_keepB [2, 3, 4] fun B_ b_ => ?_
   simp only [e_, Nat.reduceAdd, Nat.reduceBEq] at b_
   subst b_
   refine W_ret ?_
   refine then_ret ?_
   clear k14 K14
   refine ⟨_, ⟨_, _, rfl, rfl, ⟨_, _, rfl, rfl, ⟨_, _, rfl, rfl, rfl⟩⟩⟩, ?_⟩
   exact ⟨none, 0, [], 0, 2, _, _, rfl, hI, OwnS.nil, h⟩
  ·
   replace h := h.2 ar
   refine W_skip ?_
   refine then_n (k14 _ _ ?_)
   clear k14 K14
   refine W_seq_k fun K20 k20 => ?_
   refine W_region [27, 28, 26, 29, 30, 7, 8] rfl (Ops_step (R_move rfl) rfl rfl ?_)
   refine Exists.elim (ab.lend hI.st (Le.no _)) fun b7 af => ?_
   refine Ops_call (C_func bd87 rfl) rfl rfl ?_
   refine (sealskinref02_Seal_ok (x0 := bp) af.1 (hg.up (hI.le.trans af.2.1)) ab.cap af.2.2 h).mono ?_
   have ag := ab.lt
   rintro _ cv ⟨au, a9, av, bt, cw, cx, rfl, ba, ae, h⟩
   refine Exists.elim (hI.callB af.2.1 ba (by simp)) fun ck ai => Exists.elim ai fun cl ai => ?_
   have bu := hI.size
   replace hI := ai.1
   have aw := ai.2.1
   have bv := ai.2.2.1
   have bw := ai.2.2.2
   clear ai
   replace hs0 := hs0.up aw.hh
   replace aa := aa.up aw (by simp)
   replace ac := ac.up aw.hh
   replace ab := ab.up (Le.refl _) aw (by simp)
   have ah : ∀ i ∈ bk au a9, i ∉ bk bn bo := sep_new ae.off ag
   replace ae := OwnS.backS ae bu bw
   clear ba aw bv
   refine ⟨_, rfl, ?_⟩
   refine Exists.elim (ae.freeze hI) fun cy am => Exists.elim am fun cz am => ?_
   replace hI := am.1
   have ax := am.2.1
   have bx := am.2.2.1 (Le.no _)
   have cm := ae.cap
   replace hs0 := hs0.up ax.hh
   replace aa := aa.up ax (aa.sep ae (by decide))
   replace ac := ac.up ax.hh
   replace ab := ab.up (Le.refl _) ax (sep_sym ah)
   clear am ax ae
   refine Ops_step (R_move rfl) rfl rfl ?_
   refine Ops_step (R_extract (v := .slice au av.length a9) rfl rfl) rfl rfl ?_
   refine Ops_step (R_extract (v := vi bt) rfl rfl) rfl rfl ?_
   refine Ops_step (R_assign rfl) rfl rfl (Ops_step (R_assign rfl) rfl rfl ?_)
   refine Ops_nil ?_
   refine then_n (k20 _ _ ?_)
   clear k20 K20
   refine W_keepB [0, 5, 6, 7] fun B_ b_ => ?_
   simp only [e_, Nat.reduceAdd, Nat.reduceBEq] at b_
   subst b_
   refine W_seq_k fun K24 k24 => ?_
   refine W_seq_k fun K25 k25 => ?_
   refine W_drawF [31, 32, 33, 34, 35, 36, 37, 38, 39, 40, 41] [(0, true), (1, true), (2, true), (3, true), (4, true), (5, true), (6, true), (7, true), (8, true), (9, true), (10, true)] TJtH.hm rfl (by kernel_rfl) fun cb c5 a6 ak => ?_
   replace hI := hI.fr0 ak
   replace aa := aa.fr0 ak
   replace ab := ab.fr0 ak
   clear ak
   refine HSp (R_move rfl) rfl rfl ?_
   refine HS_held (fun w_ => Rd w_ au (av.map Sc.enc)) (fun w_ hw_ => X_bytesStr (bs := av) Try.underlying29 Try.underlying5 Try.underlying9 rfl rfl hw_) ((bx.up hI.sub).fz.rd hI.st) rfl rfl ?_
   refine HSp (R_move rfl) rfl rfl (HSp (R_move rfl) rfl rfl (HSp (R_nilCheck rfl) rfl rfl (HSp (R_fieldAddr fo113_1 rfl) rfl rfl ?_)))
   refine HS_loadB (v := vi ad.At_) ag3 rfl aa.blk rfl rfl rfl ?_
   have bc := h.1
   replace h := h.2
   refine HSp (R_add rfl rfl (wI bc.1 bc.2)) rfl rfl ?_
   have bd := h.1
   replace h := h.2
   have be := h.1
   replace h := h.2
   refine Exists.elim (cut_ex (n := 1) (l := 0) (h := (ad.At_ + 4)) hs0 rfl (by decide) hc0 (Int.le_refl 0) bd be) fun cc an => Exists.elim an fun c6 an => ?_
   have bf := an.1
   have co := an.2.1
   have bz := an.2.2
   clear an
   refine HSp (X_slice (xs := x0) Try.underlying29 sz5 rfl bf hc0 rfl rfl (Int.le_refl 0) bd be) rfl rfl ?_
   clear bf
   refine HS_held (fun w_ => Rd w_ cc ((cut x0 0 (ad.At_ + 4)).map Sc.enc)) (fun w_ hw_ => X_bytesStr (bs := (cut x0 0 (ad.At_ + 4))) Try.underlying29 Try.underlying5 Try.underlying9 rfl rfl hw_) (bz.fz.rd hI.st) rfl rfl ?_
   refine HSp (R_strNeB rfl rfl) rfl rfl ?_
   refine HS_nil ?_
   clear a6
   refine then_n (k25 _ _ ?_)
   clear k25 K25
   refine W_keepB [5, 6, 41] fun B_ b_ => ?_
   simp only [e_, Nat.reduceAdd, Nat.reduceBEq] at b_
   subst b_
   refine W_if rfl (fun ay => ?_) (fun ay => ?_)
   ·
    replace h := h.1 ay
    refine W_seq_k fun K33 k33 => ?_
    refine W_region [2, 3, 4] rfl (Ops_step (R_assign rfl) rfl rfl (Ops_step (R_assign rfl) rfl rfl (Ops_step (R_assign rfl) rfl rfl ?_)))
    refine Ops_nil ?_
    refine then_n (k33 _ _ ?_)
    clear k33 K33
    refine W_ret ?_
    refine then_ret ?_
    clear k24 K24
    refine ⟨_, ⟨_, _, rfl, rfl, ⟨_, _, rfl, rfl, ⟨_, _, rfl, rfl, rfl⟩⟩⟩, ?_⟩
    exact ⟨none, 0, [], 0, 20, _, _, rfl, hI, OwnS.nil, h⟩
   ·
    replace h := h.2 ay
    refine W_skip ?_
    refine then_n (k24 _ _ ?_)
    clear k24 K24
    refine W_seq_k fun K34 k34 => ?_
    refine W_drawF [42, 43, 44, 45, 46, 47, 2, 3, 4] [(0, true), (1, true), (2, true), (3, true), (4, true), (5, true), (6, true), (7, true), (8, true)] TJtH.hm rfl (by kernel_rfl) fun cd c7 a7 al => ?_
    replace hI := hI.fr0 al
    replace aa := aa.fr0 al
    replace ab := ab.fr0 al
    clear al
    refine HSp (R_move rfl) rfl rfl (HSp (R_move rfl) rfl rfl (HSp (R_nilCheck rfl) rfl rfl (HSp (R_fieldAddr fo113_1 rfl) rfl rfl ?_)))
    refine HS_loadB (v := vi ad.At_) ag3 rfl aa.blk rfl rfl rfl ?_
    have bg := h.1
    replace h := h.2
    refine HSp (R_add rfl rfl (wI bg.1 bg.2)) rfl rfl (HSp (R_assign rfl) rfl rfl (HSp (R_assign rfl) rfl rfl (HSp (R_assign rfl) rfl rfl ?_)))
    refine HS_nil ?_
    clear a7
    refine then_n (k34 _ _ ?_)
    clear k34 K34
    refine W_keepB [2, 3, 4] fun B_ b_ => ?_
    simp only [e_, Nat.reduceAdd, Nat.reduceBEq] at b_
    subst b_
    refine W_ret ?_
    refine ⟨_, ⟨_, _, rfl, rfl, ⟨_, _, rfl, rfl, ⟨_, _, rfl, rfl, rfl⟩⟩⟩, ?_⟩
    exact ⟨bn, bo, bp, (ad.At_ + 4), 0, _, _, rfl, hI, (ab.hl (Le.no _)), h⟩

theorem sealskinref02_All_ok {G : Gh} {w : World} (hS : St G w) (hg : GL G) {A0 : Option Addr} {c0 : Nat} {x0 : List UInt8} (hc0 : x0.length ≤ c0) (hs0 : Sl G A0 x0) {Q : (List (List UInt8)) → Int → Prop} (h : sealskinref02_All x0 Q) : Calls Try.prog 56 #[.slice A0 x0.length c0] w fun e w2 => ∃ (A0 : Option Addr) (c0 : Nat) (r0 : List (List UInt8)) (r1 : Int) (L H : Gh), e = .returned (.tuple #[.slice A0 r0.length c0, vi r1]) ∧ Inv [] G w L H w2 ∧ OwnS w.heap.size 29 L H w2 A0 c0 r0 ∧ Q r0 r1 := by
 unfold sealskinref02_All at h
 have hI := Inv.start (M := []) hS
 refine calls_W 33 Try.func56 rfl Try.ntmps56 rfl [.tmp 2, .tmp 3] rfl ?_
 refine W_seq_k fun K1 k1 => ?_
 refine W_region [2, 3] rfl (Ops_step (R_assign rfl) rfl rfl (Ops_step (R_assign rfl) rfl rfl ?_))
 refine Ops_nil ?_
 refine then_n (k1 _ _ ?_)
 clear k1 K1
 refine W_seq_k fun K2 k2 => ?_
 refine W_region [4] rfl (Ops_step (R_assign rfl) rfl rfl ?_)
 refine Ops_nil ?_
 refine then_n (k2 _ _ ?_)
 clear k2 K2
 refine W_seq_k fun K3 k3 => ?_
 refine W_region [5] rfl (Ops_step (R_assign rfl) rfl rfl ?_)
 refine Ops_nil ?_
 refine then_n (k3 _ _ ?_)
 clear k3 K3
 refine ex_ h fun cf bh h => ?_
 refine W_seq_join [] [4, 5] (fun vals_ w2 => ∃ (an : List (List UInt8)) (az : Option Addr) (a4 : Nat) (au : Int) (L H : Gh), vals_ = [.slice az an.length a4, vi au] ∧ cf an au ∧ Inv [] G w L H w2 ∧ Le Gh.no L ∧ Le G H ∧ OwnS w.heap.size 29 L H w2 az a4 an ∧ True) (fun B_ b_ => ?_) (fun B_ b_ => ?_)
 ·
  simp only [e_, Nat.reduceAdd, Nat.reduceBEq] at b_
  subst b_
  clear bh
  have ab := Le.refl Gh.no
  have ac := Le.refl G
  refine W_seq_k fun K5 k5 => ?_
  refine W_region [9, 10, 11] rfl (Ops_step (R_move rfl) rfl rfl (Ops_step (R_len Try.underlying29 rfl rfl) rfl rfl (Ops_step (R_move rfl) rfl rfl ?_)))
  refine Ops_nil ?_
  refine then_n (k5 _ _ ?_)
  clear k5 K5
  refine W_block ?_
  refine Exists.elim h fun cg h => Exists.elim h fun ci h => ?_
  have cd := h.1
  have bl := h.2
  clear h
  refine W_loopB [0, 10] [4, 5, 11] (fun m vals_ w2 => ∃ (ag : List (List UInt8)) (ao : Option Addr) (ap : Nat) (ah : Int) (ai : Int) (L H : Gh), vals_ = [.slice ao ag.length ap, vi ah, vi ai] ∧ cg m ag ah ai ∧ Inv [] G w L H w2 ∧ Le Gh.no L ∧ Le G H ∧ OwnS w.heap.size 29 L H w2 ao ap ag ∧ True) ci _ rfl ⟨[], none, 0, 0, 0, _, _, rfl, cd, hI, Le.refl _, Le.refl _, OwnS.nil, trivial⟩ fun B_ b_ => ?_
  clear cd
  simp only [e_, Nat.reduceAdd, Nat.reduceBEq] at b_
  subst b_
  rintro cj _ ct ⟨ag, ao, ap, ah, ai, cu, cv, rfl, bm, bn, af, ae, aa, -⟩
  replace hI := bn
  clear bn
  have h := bl cj ag ah ai bm
  clear bl bm
  replace hs0 := hs0.up ae
  replace ab := ab.trans af
  replace ac := ac.trans ae
  refine W_seq_k fun K7 k7 => ?_
  refine W_region [12] rfl (Ops_step (R_lss rfl rfl) rfl rfl ?_)
  refine Ops_nil ?_
  refine then_n (k7 _ _ ?_)
  clear k7 K7
  refine W_seq_k fun K8 k8 => ?_
  refine W_if rfl (fun bi => ?_) (fun bi => ?_)
  ·
   replace h := h.1 bi
   refine W_skip ?_
   refine then_n (k8 _ _ ?_)
   clear k8 K8
   refine W_seq_k fun K10 k10 => ?_
   refine W_block ?_
   refine W_seq_k fun K11 k11 => ?_
   refine W_region [14, 15, 16, 17, 13, 18, 19, 20, 6, 7, 8] rfl (Ops_step (R_move rfl) rfl rfl (Ops_step (R_move rfl) rfl rfl ?_))
   have a6 := h.1
   replace h := h.2
   have a7 := h.1
   replace h := h.2
   refine Exists.elim (cut_ex (n := 1) (l := ah) (h := (x0.length : Int)) hs0 rfl (by decide) hc0 a6 a7 (Int.le_refl _)) fun ck aq => Exists.elim aq fun cl aq => ?_
   have a8 := aq.1
   have bo := aq.2.1
   have bp := aq.2.2
   clear aq
   refine Ops_step (X_slice (xs := x0) Try.underlying29 sz5 rfl a8 hc0 rfl rfl a6 a7 (Int.le_refl _)) rfl rfl ?_
   clear a8
   refine Ops_call (C_func bd71 rfl) rfl rfl ?_
   refine (sealskinref02_Open_ok (x0 := (cut x0 ah (x0.length : Int))) hI.st (hg.up hI.le) bo bp h).mono ?_
   rintro _ cm ⟨av, aw, aj, a9, bq, co, cp, rfl, ba, ad, h⟩
   refine Exists.elim (hI.call ba (by simp)) fun ce a5 => ?_
   have br := hI.size
   replace hI := a5.1
   have ak := a5.2.1
   have bt := a5.2.2
   clear a5
   replace hs0 := hs0.up ak.hh
   replace ab := ab.trans ak.ll
   replace ac := ac.trans ak.hh
   replace aa := aa.up ak.ll ak (by simp)
   replace af := af.trans ak.ll
   replace ae := ae.trans ak.hh
   replace ad := OwnS.backS ad br (Le.refl _)
   clear ba ak bt
   refine ⟨_, rfl, ?_⟩
   refine Exists.elim (ad.freeze hI) fun b9 ar => Exists.elim ar fun ca ar => ?_
   replace hI := ar.1
   have al := ar.2.1
   have bu := ar.2.2.1 (Le.no _)
   have bv := ad.cap
   replace hs0 := hs0.up al.hh
   replace ab := ab.trans al.ll
   replace ac := ac.trans al.hh
   replace aa := aa.up al.ll al (aa.sep ad (by decide))
   replace af := af.trans al.ll
   replace ae := ae.trans al.hh
   clear ar al ad
   refine Ops_step (R_move rfl) rfl rfl ?_
   refine Ops_step (R_extract (v := .slice av aj.length aw) rfl rfl) rfl rfl ?_
   refine Ops_step (R_extract (v := vi a9) rfl rfl) rfl rfl ?_
   refine Ops_step (R_extract (v := vi bq) rfl rfl) rfl rfl ?_
   refine Ops_step (R_assign rfl) rfl rfl (Ops_step (R_assign rfl) rfl rfl (Ops_step (R_assign rfl) rfl rfl ?_))
   refine Ops_nil ?_
   refine then_n (k11 _ _ ?_)
   clear k11 K11
   refine W_keepB [0, 4, 5, 6, 7, 8, 10, 11] fun B_ b_ => ?_
   simp only [e_, Nat.reduceAdd, Nat.reduceBEq] at b_
   subst b_
   refine W_seq_k fun K18 k18 => ?_
   refine W_seq_k fun K19 k19 => ?_
   refine W_region [21, 22] rfl (Ops_step (R_move rfl) rfl rfl (Ops_step (R_neq rfl rfl) rfl rfl ?_))
   refine Ops_nil ?_
   refine then_n (k19 _ _ ?_)
   clear k19 K19
   refine W_if rfl (fun ax => ?_) (fun ax => ?_)
   ·
    replace h := h.1 ax
    refine W_exit ?_
    refine then_exit ?_
    clear k18 K18
    refine block_other rfl ?_
    refine then_exit ?_
    clear k10 K10
    refine then_exit ?_
    refine block_exit ?_
    refine then_n ?_
    exact ⟨_, rfl, ⟨ag, ao, ap, ah, _, _, rfl, h, hI, ab, ac, aa, trivial⟩, trivial⟩
   ·
    replace h := h.2 ax
    refine W_skip ?_
    refine then_n (k18 _ _ ?_)
    clear k18 K18
    refine W_seq_k fun K21 k21 => ?_
    refine W_region [23, 24, 25, 26, 4] rfl (Ops_step (R_move rfl) rfl rfl (Ops_step (R_move rfl) rfl rfl ?_))
    have am := aa.lt
    refine Ops_to (R_buildSlice el67 zr29 (by decide) (by decide) rfl rfl) rfl rfl ?_
    rintro _ cq ⟨bw, rfl, bx, bc, ay⟩
    have bz : OwnS w.heap.size 29 b9 ca _ (some ⟨bw, 0, none⟩) 1 ([aj] : List (List UInt8)) := OwnS.ofBlk (css := [[.slice av aj.length aw]]) hI.st bx bc (.cons ⟨av, aw, rfl, bv, bu⟩ .nil) rfl (by have := hI.size; omega) (by show 1 ≤ maxLen; decide)
    replace hI := hI.fr0 ay
    replace aa := aa.fr0 ay
    clear ay bc
    have bd : ∀ i ∈ bk (some ⟨bw, 0, none⟩) 1, i ∉ bk ao ap := sep_new (fun i_ hi_ => by have := (bk_of hi_).1; simp only [blkOf, List.mem_singleton] at this; omega) am
    have b4 := h.1
    replace h := h.2
    refine Ops_to (X_append (α := List UInt8) (xs := ag) (ys := ([aj] : List (List UInt8))) el67 rfl rfl aa (Srcs.ofOwn Try.underlying67 bz (by decide)) hI.st b4 (by decide) hI.size) rfl rfl ?_
    rintro _ cr ⟨cb, cc, rfl, b5, be, bj⟩
    clear bj
    replace hI := hI.tok be aa.out (aa.new (Nat.le_refl _))
    clear be aa
    refine Ops_step (R_assign rfl) rfl rfl ?_
    refine Ops_nil ?_
    refine then_n (k21 _ _ ?_)
    clear k21 K21
    refine W_keepB [0, 4, 5, 7, 10, 11] fun B_ b_ => ?_
    simp only [e_, Nat.reduceAdd, Nat.reduceBEq] at b_
    subst b_
    refine W_region [27, 28, 29, 5] rfl (Ops_step (R_move rfl) rfl rfl (Ops_step (R_move rfl) rfl rfl ?_))
    have bf := h.1
    replace h := h.2
    refine Ops_step (R_add rfl rfl (wI bf.1 bf.2)) rfl rfl (Ops_step (R_assign rfl) rfl rfl ?_)
    refine Ops_nil ?_
    refine block_n ?_
    refine then_n (k10 _ _ ?_)
    clear k10 K10
    refine W_region [30, 11] rfl ?_
    have bg := h.1
    replace h := h.2
    refine Ops_step (R_add rfl rfl (wI bg.1 bg.2)) rfl rfl (Ops_step (R_move rfl) rfl rfl ?_)
    refine Ops_nil ?_
    refine then_n ?_
    exact h.elim fun m_ h => ⟨m_, _, h.1, rfl, ⟨(ag ++ ([aj] : List (List UInt8))), cb, cc, (ah + a9), (ai + 1), _, _, rfl, h.2, hI, af, ae, b5, trivial⟩, ⟨rfl, rfl, trivial⟩⟩
  ·
   replace h := h.2 bi
   refine W_exit ?_
   refine then_exit ?_
   clear k8 K8
   refine then_exit ?_
   refine block_exit ?_
   refine then_n ?_
   exact ⟨_, rfl, ⟨ag, ao, ap, ah, _, _, rfl, h, hI, ab, ac, aa, trivial⟩, trivial⟩
 ·
  simp only [e_, Nat.reduceAdd, Nat.reduceBEq] at b_
  subst b_
  clear h
  rintro _ cw ⟨an, az, a4, au, cx, cy, rfl, b6, b7, ab, ac, b8, -⟩
  replace hI := b7
  clear b7
  have h := bh an au b6
  clear bh b6
  refine W_seq_k fun K28 k28 => ?_
  refine W_region [31, 32, 2, 3] rfl (Ops_step (R_move rfl) rfl rfl (Ops_step (R_move rfl) rfl rfl (Ops_step (R_assign rfl) rfl rfl (Ops_step (R_assign rfl) rfl rfl ?_))))
  refine Ops_nil ?_
  refine then_n (k28 _ _ ?_)
  clear k28 K28
  refine W_ret ?_
  refine ⟨_, ⟨_, _, rfl, rfl, ⟨_, _, rfl, rfl, rfl⟩⟩, ?_⟩
  exact ⟨az, a4, an, au, _, _, rfl, hI, b8, h⟩

theorem sealskinref02_Reader_Within_ok {G : Gh} {w : World} (hS : St G w) (hg : GL G) {d0 : Nat} {z0 : sealskinref02_Reader} {ac : Option Addr} {ad : Nat} (aa : Tok G w d0 113 ([.slice ac z0.B_.length ad, vi z0.At_, vi z0.E_])) (ag : z0.B_.length ≤ ad) (ab : Sl G ac z0.B_) {x1 : Int} {x2 : Int} {Q : Int → sealskinref02_Reader → Prop} (h : sealskinref02_Reader_Within z0 x1 x2 Q) : Calls Try.prog 72 #[.pointer (some ⟨d0, 0, none⟩), vi x1, vi x2] w fun e w2 => ∃ (r0 : Int) (y0 : sealskinref02_Reader) (az : Option Addr) (a4 : Nat) (L H : Gh), e = .returned (vi r0) ∧ Inv [d0] G w L H w2 ∧ Tok H w2 d0 113 ([.slice az y0.B_.length a4, vi y0.At_, vi y0.E_]) ∧ y0.B_.length ≤ a4 ∧ Sl H az y0.B_ ∧ Q r0 y0 := by
 unfold sealskinref02_Reader_Within at h
 have hI := Inv.start (M := [d0]) hS
 refine calls_W 53 Try.func72 rfl Try.ntmps72 rfl [.tmp 6] rfl ?_
 have bt := aa.blk.lt
 refine W_seq_k fun K1 k1 => ?_
 refine W_region [6] rfl (Ops_step (R_assign rfl) rfl rfl ?_)
 refine Ops_nil ?_
 refine then_n (k1 _ _ ?_)
 clear k1 K1
 refine W_seq_k fun K2 k2 => ?_
 refine W_seq_k fun K3 k3 => ?_
 refine W_region [9, 10, 11, 12, 13] rfl (Ops_step (R_move rfl) rfl rfl (Ops_step (R_nilCheck rfl) rfl rfl (Ops_step (R_fieldAddr fo113_2 rfl) rfl rfl ?_)))
 refine Ops_step (R_loadB (v := vi z0.E_) ag32 rfl aa.blk rfl) rfl rfl ?_
 refine Ops_step (R_neq rfl rfl) rfl rfl ?_
 refine Ops_nil ?_
 refine then_n (k3 _ _ ?_)
 clear k3 K3
 refine W_if rfl (fun bl => ?_) (fun bl => ?_)
 ·
  replace h := h.1 bl
  refine W_seq_k fun K5 k5 => ?_
  refine W_region [6] rfl (Ops_step (R_assign rfl) rfl rfl ?_)
  refine Ops_nil ?_
  refine then_n (k5 _ _ ?_)
  clear k5 K5
  refine W_keepB [6] fun B_ b_ => ?_
  simp only [e_, Nat.reduceAdd, Nat.reduceBEq] at b_
  subst b_
  refine W_ret ?_
  refine then_ret ?_
  clear k2 K2
  refine ⟨_, ⟨_, _, rfl, rfl, rfl⟩, ?_⟩
  exact ⟨0, z0, ac, ad, _, _, rfl, hI, aa, ag, ab, h⟩
 ·
  replace h := h.2 bl
  refine W_skip ?_
  refine then_n (k2 _ _ ?_)
  clear k2 K2
  refine W_keepB [0, 1, 2] fun B_ b_ => ?_
  simp only [e_, Nat.reduceAdd, Nat.reduceBEq] at b_
  subst b_
  refine W_seq_k fun K8 k8 => ?_
  refine W_drawF [15, 16, 17, 18, 19, 20, 21, 22, 23, 24, 14, 25, 26, 7, 8] [(0, true), (1, true), (2, true), (3, true), (4, true), (5, true), (6, true), (7, true), (8, true), (9, false), (10, true), (11, true), (12, true), (13, true), (14, true)] TJtH.hm rfl (by kernel_rfl) fun bw ce an bm => ?_
  replace hI := hI.fr0 bm
  replace aa := aa.fr0 bm
  clear bm
  refine HSp (R_move rfl) rfl rfl (HSp (R_nilCheck rfl) rfl rfl (HSp (R_fieldAddr fo113_0 rfl) rfl rfl ?_))
  refine HS_loadB (v := .slice ac z0.B_.length ad) ag29 rfl aa.blk rfl rfl rfl ?_
  refine HSp (R_move rfl) rfl rfl (HSp (R_nilCheck rfl) rfl rfl (HSp (R_fieldAddr fo113_1 rfl) rfl rfl ?_))
  refine HS_loadB (v := vi z0.At_) ag3 rfl aa.blk rfl rfl rfl ?_
  have a5 := h.1
  replace h := h.2
  have a6 := h.1
  replace h := h.2
  refine Exists.elim (cut_ex (n := 1) (l := z0.At_) (h := (z0.B_.length : Int)) ab rfl (by decide) ag a5 a6 (Int.le_refl _)) fun bz am => Exists.elim am fun b4 am => ?_
  have a7 := am.1
  have bo := am.2.1
  have bp := am.2.2
  clear am
  refine HSp (X_slice (xs := z0.B_) Try.underlying29 sz5 rfl a7 ag rfl rfl a5 a6 (Int.le_refl _)) rfl rfl ?_
  clear a7
  refine HS_call [] _ rfl (by rw [an]; kernel_rfl) (C_func bd88 rfl) rfl rfl ?_
  refine (sealskinref02_number_ok (x0 := (cut z0.B_ z0.At_ (z0.B_.length : Int))) hI.st (hg.up hI.le) bo bp h).mono ?_
  rintro _ b5 ⟨ao, a8, b6, ax, rfl, a9, h⟩
  refine Exists.elim (hI.call a9 (by simp)) fun al ay => ?_
  have bx := hI.size
  replace hI := ay.1
  have bn := ay.2.1
  have bq := ay.2.2
  clear ay
  replace ab := ab.up bn.hh
  replace aa := aa.up bn (by simp)
  clear a9 bn bq
  refine ⟨_, rfl, trivial, ?_⟩
  refine HSp (R_move rfl) rfl rfl ?_
  refine HSp (R_extract (v := vi ao) rfl rfl) rfl rfl ?_
  refine HSp (R_extract (v := vi a8) rfl rfl) rfl rfl ?_
  refine HSp (R_assign rfl) rfl rfl (HSp (R_assign rfl) rfl rfl ?_)
  refine HS_nil ?_
  clear an
  refine then_n (k8 _ _ ?_)
  clear k8 K8
  refine W_keepB [0, 1, 2, 7, 8] fun B_ b_ => ?_
  simp only [e_, Nat.reduceAdd, Nat.reduceBEq] at b_
  subst b_
  refine ex_ h fun bu ap h => ?_
  refine W_seq_join [0, 7] [8] (fun vals_ w2 => ∃ (aj : Int) (L H : Gh), vals_ = [vi aj] ∧ bu aj ∧ Inv [d0] G w L H w2 ∧ Le al L ∧ Le ax H ∧ Tok H w2 d0 113 ([.slice ac z0.B_.length ad, vi z0.At_, vi z0.E_]) ∧ True) (fun B_ b_ => ?_) (fun B_ b_ => ?_)
  ·
   simp only [e_, Nat.reduceAdd, Nat.reduceBEq] at b_
   subst b_
   clear ap
   have ah := Le.refl al
   have ae := Le.refl ax
   refine ex_ h fun bv aq h => ?_
   refine W_seq_join [0, 7, 8] [38] (fun vals_ w2 => ∃ (ak : Bool) (L H : Gh), vals_ = [.bool ak] ∧ bv ak ∧ Inv [d0] G w L H w2 ∧ Le al L ∧ Le ax H ∧ Tok H w2 d0 113 ([.slice ac z0.B_.length ad, vi z0.At_, vi z0.E_]) ∧ True) (fun B_ b_ => ?_) (fun B_ b_ => ?_)
   ·
    simp only [e_, Nat.reduceAdd, Nat.reduceBEq] at b_
    subst b_
    clear aq
    have ai := Le.refl al
    have af := Le.refl ax
    refine W_region [27, 28, 29, 30, 31, 32, 33, 34, 35, 36, 37, 38] rfl (Ops_step (R_move rfl) rfl rfl (Ops_step (R_eql rfl rfl) rfl rfl (Ops_step (R_move rfl) rfl rfl ?_)))
    refine Ops_split 29 rfl (fun ar => ?_) (fun ar => ?_)
    ·
     replace h := h.1 ar
     refine Ops_step (R_move rfl) rfl rfl (Ops_step (R_move rfl) rfl rfl (Ops_step (R_lss rfl rfl) rfl rfl (Ops_step (R_move rfl) rfl rfl ?_)))
     refine Ops_split 33 rfl (fun au => ?_) (fun au => ?_)
     ·
      replace h := h.1 au
      refine Ops_pass rfl rfl (Ops_pass rfl rfl (Ops_pass rfl rfl (Ops_step (R_pick_true rfl rfl) rfl rfl (Ops_step (R_pick_true rfl rfl) rfl rfl ?_))))
      refine Ops_nil ?_
      refine then_n ?_
      exact ⟨_, rfl, ⟨true, _, _, rfl, h, hI, ai, af, aa, trivial⟩, ⟨rfl, rfl, rfl, trivial⟩⟩
     ·
      replace h := h.2 au
      refine Ops_step (R_move rfl) rfl rfl (Ops_step (R_move rfl) rfl rfl (Ops_step (R_gtr rfl rfl) rfl rfl (Ops_step (R_pick_false rfl rfl) rfl rfl (Ops_step (R_pick_true rfl rfl) rfl rfl ?_))))
      refine Ops_nil ?_
      refine then_n ?_
      exact ⟨_, rfl, ⟨(decide (ao > x2)), _, _, rfl, h, hI, ai, af, aa, trivial⟩, ⟨rfl, rfl, rfl, trivial⟩⟩
    ·
     replace h := h.2 ar
     refine Ops_pass rfl rfl (Ops_pass rfl rfl (Ops_pass rfl rfl (Ops_pass rfl rfl (Ops_passU rfl rfl ?_))))
     refine Ops_passU rfl rfl (Ops_passU rfl rfl (Ops_pass rfl rfl (Ops_step (R_pick_false rfl rfl) rfl rfl ?_)))
     refine Ops_nil ?_
     refine then_n ?_
     exact ⟨_, rfl, ⟨false, _, _, rfl, h, hI, ai, af, aa, trivial⟩, ⟨rfl, rfl, rfl, trivial⟩⟩
   ·
    simp only [e_, Nat.reduceAdd, Nat.reduceBEq] at b_
    subst b_
    clear h
    clear aa
    rintro _ b7 ⟨ak, b8, b9, rfl, ba, bc, ai, af, aa, -⟩
    replace hI := bc
    clear bc
    have h := aq ak ba
    clear aq ba
    replace ab := ab.up af
    replace ah := ah.trans ai
    replace ae := ae.trans af
    refine W_cond rfl (fun av => ?_) (fun av => ?_)
    ·
     replace h := h.1 av
     refine W_region [8] rfl (Ops_step (R_assign rfl) rfl rfl ?_)
     refine Ops_nil ?_
     refine then_n ?_
     exact ⟨_, rfl, ⟨5, _, _, rfl, h, hI, ah, ae, aa, trivial⟩, ⟨rfl, rfl, trivial⟩⟩
    ·
     replace h := h.2 av
     refine W_skip ?_
     refine then_n ?_
     exact ⟨_, rfl, ⟨a8, _, _, rfl, h, hI, ah, ae, aa, trivial⟩, ⟨rfl, rfl, trivial⟩⟩
  ·
   simp only [e_, Nat.reduceAdd, Nat.reduceBEq] at b_
   subst b_
   clear h
   clear aa
   rintro _ ca ⟨aj, cb, br, rfl, bd, be, ah, ae, aa, -⟩
   replace hI := be
   clear be
   have h := ap aj bd
   clear ap bd
   replace ab := ab.up ae
   refine W_seq_k fun K20 k20 => ?_
   refine W_seq_k fun K21 k21 => ?_
   refine W_region [39, 40] rfl (Ops_step (R_move rfl) rfl rfl (Ops_step (R_neq rfl rfl) rfl rfl ?_))
   refine Ops_nil ?_
   refine then_n (k21 _ _ ?_)
   clear k21 K21
   refine W_if rfl (fun aw => ?_) (fun aw => ?_)
   ·
    replace h := h.1 aw
    refine W_seq_k fun K23 k23 => ?_
    refine W_region [41, 42, 43, 44, none] rfl (Ops_step (R_move rfl) rfl rfl (Ops_step (R_move rfl) rfl rfl (Ops_step (R_nilCheck rfl) rfl rfl (Ops_step (R_fieldAddr fo113_2 rfl) rfl rfl ?_))))
    refine Ops_to0 (R_store sz32 rfl rfl aa.blk (by show 2 < 3; decide) rfl) rfl ?_
    rintro _ cc ⟨bf, bg⟩
    replace hI := hI.tok bg (out1 aa.out) (mem1 (by simp))
    replace aa : Tok br _ d0 113 ([.slice ac z0.B_.length ad, vi z0.At_, vi aj]) := ⟨bf, aa.out⟩
    clear bg bf
    refine Ops_nil ?_
    refine then_n (k23 _ _ ?_)
    clear k23 K23
    refine W_keepB [] fun B_ b_ => ?_
    simp only [e_, Nat.reduceAdd, Nat.reduceBEq] at b_
    subst b_
    refine W_seq_k fun K26 k26 => ?_
    refine W_region [6] rfl (Ops_step (R_assign rfl) rfl rfl ?_)
    refine Ops_nil ?_
    refine then_n (k26 _ _ ?_)
    clear k26 K26
    refine W_ret ?_
    refine then_ret ?_
    clear k20 K20
    refine ⟨_, ⟨_, _, rfl, rfl, rfl⟩, ?_⟩
    exact ⟨0, (sealskinref02_Reader.mk z0.B_ z0.At_ aj), ac, ad, _, _, rfl, hI, aa, ag, ab, h⟩
   ·
    replace h := h.2 aw
    refine W_skip ?_
    refine then_n (k20 _ _ ?_)
    clear k20 K20
    refine W_seq_k fun K27 k27 => ?_
    refine W_region [45, 46, 47, 48, 49, 50, 51, none] rfl (Ops_step (R_move rfl) rfl rfl (Ops_step (R_nilCheck rfl) rfl rfl (Ops_step (R_fieldAddr fo113_1 rfl) rfl rfl ?_)))
    refine Ops_step (R_loadB (v := vi z0.At_) ag3 rfl aa.blk rfl) rfl rfl ?_
    have bh := h.1
    replace h := h.2
    refine Ops_step (R_add rfl rfl (wI bh.1 bh.2)) rfl rfl (Ops_step (R_nilCheck rfl) rfl rfl (Ops_step (R_fieldAddr fo113_1 rfl) rfl rfl ?_))
    refine Ops_to0 (R_store sz3 rfl rfl aa.blk (by show 1 < 3; decide) rfl) rfl ?_
    rintro _ cd ⟨bi, bj⟩
    replace hI := hI.tok bj (out1 aa.out) (mem1 (by simp))
    replace aa : Tok br _ d0 113 ([.slice ac z0.B_.length ad, vi (z0.At_ + 8), vi z0.E_]) := ⟨bi, aa.out⟩
    clear bj bi
    refine Ops_nil ?_
    refine then_n (k27 _ _ ?_)
    clear k27 K27
    refine W_keepB [7] fun B_ b_ => ?_
    simp only [e_, Nat.reduceAdd, Nat.reduceBEq] at b_
    subst b_
    refine W_seq_k fun K31 k31 => ?_
    refine W_region [52, 6] rfl (Ops_step (R_move rfl) rfl rfl (Ops_step (R_assign rfl) rfl rfl ?_))
    refine Ops_nil ?_
    refine then_n (k31 _ _ ?_)
    clear k31 K31
    refine W_ret ?_
    refine ⟨_, ⟨_, _, rfl, rfl, rfl⟩, ?_⟩
    exact ⟨ao, (sealskinref02_Reader.mk z0.B_ (z0.At_ + 8) z0.E_), ac, ad, _, _, rfl, hI, aa, ag, ab, h⟩

theorem sealskinref02_Reader_End_ok {G : Gh} {w : World} (hS : St G w) (hg : GL G) {d0 : Nat} {z0 : sealskinref02_Reader} {af : Option Addr} {ag : Nat} (ab : Tok G w d0 113 ([.slice af z0.B_.length ag, vi z0.At_, vi z0.E_])) (ah : z0.B_.length ≤ ag) (aa : Sl G af z0.B_) {Q : Int → Prop} (h : sealskinref02_Reader_End z0 Q) : Calls Try.prog 73 #[.pointer (some ⟨d0, 0, none⟩)] w fun e w2 => ∃ (r0 : Int) (L H : Gh), e = .returned (vi r0) ∧ Inv [] G w L H w2 ∧ Q r0 := by
 unfold sealskinref02_Reader_End at h
 have hI := Inv.start (M := []) hS
 refine calls_W 17 Try.func73 rfl Try.ntmps73 rfl [.tmp 2] rfl ?_
 have aq := ab.blk.lt
 refine W_seq_k fun K1 k1 => ?_
 refine W_region [2] rfl (Ops_step (R_assign rfl) rfl rfl ?_)
 refine Ops_nil ?_
 refine then_n (k1 _ _ ?_)
 clear k1 K1
 refine W_seq_k fun K2 k2 => ?_
 refine ex_ h fun av ai h => ?_
 refine W_seq_join [0] [12] (fun vals_ w2 => ∃ (ae : Bool) (L H : Gh), vals_ = [.bool ae] ∧ av ae ∧ Inv [] G w L H w2 ∧ Le Gh.no L ∧ Le G H ∧ Tok H w2 d0 113 ([.slice af z0.B_.length ag, vi z0.At_, vi z0.E_]) ∧ True) (fun B_ b_ => ?_) (fun B_ b_ => ?_)
 ·
  simp only [e_, Nat.reduceAdd, Nat.reduceBEq] at b_
  subst b_
  clear ai
  have ad := Le.refl Gh.no
  have ac := Le.refl G
  refine W_region [3, 4, 5, 6, 7, 8, 9, 10, 11, 12] rfl (Ops_step (R_move rfl) rfl rfl (Ops_step (R_nilCheck rfl) rfl rfl (Ops_step (R_fieldAddr fo113_2 rfl) rfl rfl ?_)))
  refine Ops_step (R_loadB (v := vi z0.E_) ag32 rfl ab.blk rfl) rfl rfl ?_
  refine Ops_step (R_eql rfl rfl) rfl rfl (Ops_step (R_move rfl) rfl rfl ?_)
  refine Ops_split 8 rfl (fun aj => ?_) (fun aj => ?_)
  ·
   replace h := h.1 aj
   refine Ops_step (R_move rfl) rfl rfl ?_
   refine Ops_call (C_func bd86 rfl) rfl rfl ?_
   refine (sealskinref02_Reader_Left_ok (z0 := z0) hI.st (hg.up hI.le) ab ah aa h).mono ?_
   rintro _ ay ⟨ar, az, a4, rfl, al, h⟩
   refine Exists.elim (hI.call al (by simp)) fun aw ap => ?_
   have ax := hI.size
   replace hI := ap.1
   have am := ap.2.1
   have au := ap.2.2
   clear ap
   replace aa := aa.up am.hh
   replace ab := ab.up am (by simp)
   replace ad := ad.trans am.ll
   replace ac := ac.trans am.hh
   clear al am au
   refine ⟨_, rfl, ?_⟩
   refine Ops_step (R_gtr rfl rfl) rfl rfl (Ops_step (R_pick_true rfl rfl) rfl rfl ?_)
   refine Ops_nil ?_
   refine then_n ?_
   exact ⟨_, rfl, ⟨(decide (ar > 0)), _, _, rfl, h, hI, ad, ac, ab, trivial⟩, ⟨rfl, trivial⟩⟩
  ·
   replace h := h.2 aj
   refine Ops_pass rfl rfl (Ops_pass rfl rfl (Ops_pass rfl rfl (Ops_step (R_pick_false rfl rfl) rfl rfl ?_)))
   refine Ops_nil ?_
   refine then_n ?_
   exact ⟨_, rfl, ⟨false, _, _, rfl, h, hI, ad, ac, ab, trivial⟩, ⟨rfl, trivial⟩⟩
 ·
  simp only [e_, Nat.reduceAdd, Nat.reduceBEq] at b_
  subst b_
  clear h
  clear ab
  rintro _ a5 ⟨ae, a6, a7, rfl, an, ao, ad, ac, ab, -⟩
  replace hI := ao
  clear ao
  have h := ai ae an
  clear ai an
  replace aa := aa.up ac
  refine W_cond rfl (fun ak => ?_) (fun ak => ?_)
  ·
   replace h := h.1 ak
   refine W_seq_k fun K7 k7 => ?_
   refine W_region [2] rfl (Ops_step (R_assign rfl) rfl rfl ?_)
   refine Ops_nil ?_
   refine then_n (k7 _ _ ?_)
   clear k7 K7
   refine W_ret ?_
   refine then_ret ?_
   clear k2 K2
   refine ⟨_, ⟨_, _, rfl, rfl, rfl⟩, ?_⟩
   exact ⟨3, _, _, rfl, hI, h⟩
  ·
   replace h := h.2 ak
   refine W_skip ?_
   refine then_n (k2 _ _ ?_)
   clear k2 K2
   refine W_seq_k fun K8 k8 => ?_
   refine W_region [13, 14, 15, 16, 2] rfl (Ops_step (R_move rfl) rfl rfl (Ops_step (R_nilCheck rfl) rfl rfl (Ops_step (R_fieldAddr fo113_2 rfl) rfl rfl ?_)))
   refine Ops_step (R_loadB (v := vi z0.E_) ag32 rfl ab.blk rfl) rfl rfl ?_
   refine Ops_step (R_assign rfl) rfl rfl ?_
   refine Ops_nil ?_
   refine then_n (k8 _ _ ?_)
   clear k8 K8
   refine W_keepB [2] fun B_ b_ => ?_
   simp only [e_, Nat.reduceAdd, Nat.reduceBEq] at b_
   subst b_
   refine W_ret ?_
   refine ⟨_, ⟨_, _, rfl, rfl, rfl⟩, ?_⟩
   exact ⟨z0.E_, _, _, rfl, hI, h⟩

theorem sealskinref06_top_ok {G : Gh} {w : World} (hS : St G w) (hg : GL G) {A0 : Option Addr} {c0 : Nat} {x0 : List (List UInt8)} (hc0 : x0.length ≤ c0) (hs0 : Sl G A0 x0) {Q : Int → Int → Prop} (h : sealskinref06_top x0 Q) : Calls Try.prog 57 #[.slice A0 x0.length c0] w fun e w2 => ∃ (r0 : Int) (r1 : Int) (L H : Gh), e = .returned (.tuple #[vi r0, vi r1]) ∧ Inv [] G w L H w2 ∧ Q r0 r1 := by
 unfold sealskinref06_top at h
 have hI := Inv.start (M := []) hS
 refine calls_W 24 Try.func57 rfl Try.ntmps57 rfl [.tmp 2, .tmp 3] rfl ?_
 refine W_seq_k fun K1 k1 => ?_
 refine W_region [2, 3] rfl (Ops_step (R_assign rfl) rfl rfl (Ops_step (R_assign rfl) rfl rfl ?_))
 refine Ops_nil ?_
 refine then_n (k1 _ _ ?_)
 clear k1 K1
 refine W_seq_k fun K2 k2 => ?_
 refine W_seq_k fun K3 k3 => ?_
 refine W_region [7, 8, 9] rfl (Ops_step (R_move rfl) rfl rfl (Ops_step (R_len Try.underlying67 rfl rfl) rfl rfl (Ops_step (R_eql rfl rfl) rfl rfl ?_)))
 refine Ops_nil ?_
 refine then_n (k3 _ _ ?_)
 clear k3 K3
 refine W_if rfl (fun aq => ?_) (fun aq => ?_)
 ·
  replace h := h.1 aq
  refine W_seq_k fun K5 k5 => ?_
  refine W_region [2, 3] rfl (Ops_step (R_assign rfl) rfl rfl (Ops_step (R_assign rfl) rfl rfl ?_))
  refine Ops_nil ?_
  refine then_n (k5 _ _ ?_)
  clear k5 K5
  refine W_ret ?_
  refine then_ret ?_
  clear k2 K2
  refine ⟨_, ⟨_, _, rfl, rfl, ⟨_, _, rfl, rfl, rfl⟩⟩, ?_⟩
  exact ⟨0, 0, _, _, rfl, hI, h⟩
 ·
  replace h := h.2 aq
  refine W_skip ?_
  refine then_n (k2 _ _ ?_)
  clear k2 K2
  refine W_seq_k fun K6 k6 => ?_
  refine W_region [10, 11, 12, 13, 14, 4] rfl (Ops_step (R_move rfl) rfl rfl ?_)
  refine ex_ h fun bi aj h => ?_
  have bj := (hs0.atL aj).1
  refine Exists.elim (hs0.atL aj).2 fun bn af => Exists.elim af fun bo af => ?_
  have bl := af.1
  have ar := af.2.1
  have bm := af.2.2
  clear af
  refine Ops_step (R_indexSl Try.underlying67 sz29 rfl rfl aj.1 aj.lt bj) rfl rfl (Ops_step (R_load ag29 rfl (hI.st _ _ bm)) rfl rfl ?_)
  refine Ops_step (R_build (pl := [(0, 1)]) (cs := [.slice bn bi.length bo, vi 0, vi 0]) zr113 pl113 rfl rfl rfl) rfl rfl ?_
  have au := hI
  refine Ops_to (R_box rfl) rfl rfl ?_
  rintro _ cc ⟨bp, rfl, av, az, a4⟩
  replace hI := hI.fr0 a4
  have a5 : Tok G _ bp 113 ([.slice bn bi.length bo, vi 0, vi 0]) := ⟨az.to rfl, Out.ge au.st (Nat.le_of_eq av.symm)⟩
  have ad : w.heap.size ≤ bp := av ▸ au.size
  clear az av au a4
  refine Ops_step (R_assign rfl) rfl rfl ?_
  refine Ops_nil ?_
  refine then_n (k6 _ _ ?_)
  clear k6 K6
  refine W_keepB [4] fun B_ b_ => ?_
  simp only [e_, Nat.reduceAdd, Nat.reduceBEq] at b_
  subst b_
  refine W_seq_k fun K10 k10 => ?_
  refine W_region [15, 16, 17, 18, 5, 6] rfl (Ops_step (R_move rfl) rfl rfl ?_)
  refine Ops_call (C_func bd72 rfl) rfl rfl ?_
  refine (sealskinref02_Reader_Within_ok (x1 := 1) (x2 := 1099511627776) (z0 := (sealskinref02_Reader.mk bi 0 0)) hI.st (hg.up hI.le) a5 bl ar h).mono ?_
  rintro _ bz ⟨a6, aw, a7, a8, b4, b5, rfl, an, ae, ag, aa, h⟩
  refine Exists.elim (hI.call an (new1 ad)) fun bq ak => ?_
  have br := hI.size
  replace hI := ak.1
  have a9 := ak.2.1
  have ba := ak.2.2
  clear ak
  replace ar := ar.up a9.hh
  clear a5
  clear an a9 ba
  refine ⟨_, rfl, ?_⟩
  refine Ops_step (R_move rfl) rfl rfl ?_
  refine Ops_call (C_func bd72 rfl) rfl rfl ?_
  refine (sealskinref02_Reader_Within_ok (x1 := 0) (x2 := 1099511627776) (z0 := aw) hI.st (hg.up hI.le) ae ag aa h).mono ?_
  rintro _ b6 ⟨bc, ax, bd, be, b7, b8, rfl, ao, ac, ah, ab, h⟩
  refine Exists.elim (hI.call ao (new1 ad)) fun bt al => ?_
  have bu := hI.size
  replace hI := al.1
  have bf := al.2.1
  have bg := al.2.2
  clear al
  replace aa := aa.up bf.hh
  clear ae
  clear ao bf bg
  refine ⟨_, rfl, ?_⟩
  refine Ops_step (R_assign rfl) rfl rfl (Ops_step (R_assign rfl) rfl rfl ?_)
  refine Ops_nil ?_
  refine then_n (k10 _ _ ?_)
  clear k10 K10
  refine W_seq_k fun K13 k13 => ?_
  refine W_seq_k fun K14 k14 => ?_
  refine W_region [19, 20, 21] rfl (Ops_step (R_move rfl) rfl rfl ?_)
  refine Ops_call (C_func bd73 rfl) rfl rfl ?_
  refine (sealskinref02_Reader_End_ok (z0 := ax) hI.st (hg.up hI.le) ac ah ab h).mono ?_
  rintro _ b9 ⟨bv, ca, cb, rfl, ap, h⟩
  refine Exists.elim (hI.call ap (by simp)) fun bw am => ?_
  have bx := hI.size
  replace hI := am.1
  have ay := am.2.1
  have bh := am.2.2
  clear am
  replace ac := ac.up ay (by simp)
  replace ab := ab.up ay.hh
  clear ap ay bh
  refine ⟨_, rfl, ?_⟩
  refine Ops_step (R_neq rfl rfl) rfl rfl ?_
  refine Ops_nil ?_
  refine then_n (k14 _ _ ?_)
  clear k14 K14
  refine W_keepB [5, 6, 21] fun B_ b_ => ?_
  simp only [e_, Nat.reduceAdd, Nat.reduceBEq] at b_
  subst b_
  refine W_if rfl (fun ai => ?_) (fun ai => ?_)
  ·
   replace h := h.1 ai
   refine W_seq_k fun K18 k18 => ?_
   refine W_region [2, 3] rfl (Ops_step (R_assign rfl) rfl rfl (Ops_step (R_assign rfl) rfl rfl ?_))
   refine Ops_nil ?_
   refine then_n (k18 _ _ ?_)
   clear k18 K18
   refine W_ret ?_
   refine then_ret ?_
   clear k13 K13
   refine ⟨_, ⟨_, _, rfl, rfl, ⟨_, _, rfl, rfl, rfl⟩⟩, ?_⟩
   exact ⟨0, 0, _, _, rfl, hI, h⟩
  ·
   replace h := h.2 ai
   refine W_skip ?_
   refine then_n (k13 _ _ ?_)
   clear k13 K13
   refine W_seq_k fun K19 k19 => ?_
   refine W_region [22, 23, 2, 3] rfl (Ops_step (R_move rfl) rfl rfl (Ops_step (R_move rfl) rfl rfl (Ops_step (R_assign rfl) rfl rfl (Ops_step (R_assign rfl) rfl rfl ?_))))
   refine Ops_nil ?_
   refine then_n (k19 _ _ ?_)
   clear k19 K19
   refine W_ret ?_
   refine ⟨_, ⟨_, _, rfl, rfl, ⟨_, _, rfl, rfl, rfl⟩⟩, ?_⟩
   exact ⟨a6, bc, _, _, rfl, hI, h⟩

theorem sealskinref02_Reader_Number_ok {G : Gh} {w : World} (hS : St G w) (hg : GL G) {d0 : Nat} {z0 : sealskinref02_Reader} {ac : Option Addr} {ad : Nat} (aa : Tok G w d0 113 ([.slice ac z0.B_.length ad, vi z0.At_, vi z0.E_])) (ae : z0.B_.length ≤ ad) (ab : Sl G ac z0.B_) {Q : Int → sealskinref02_Reader → Prop} (h : sealskinref02_Reader_Number z0 Q) : Calls Try.prog 74 #[.pointer (some ⟨d0, 0, none⟩)] w fun e w2 => ∃ (r0 : Int) (y0 : sealskinref02_Reader) (ak : Option Addr) (al : Nat) (L H : Gh), e = .returned (vi r0) ∧ Inv [d0] G w L H w2 ∧ Tok H w2 d0 113 ([.slice ak y0.B_.length al, vi y0.At_, vi y0.E_]) ∧ y0.B_.length ≤ al ∧ Sl H ak y0.B_ ∧ Q r0 y0 := by
 unfold sealskinref02_Reader_Number at h
 have hI := Inv.start (M := [d0]) hS
 refine calls_W 37 Try.func74 rfl Try.ntmps74 rfl [.tmp 2] rfl ?_
 have a9 := aa.blk.lt
 refine W_seq_k fun K1 k1 => ?_
 refine W_region [2] rfl (Ops_step (R_assign rfl) rfl rfl ?_)
 refine Ops_nil ?_
 refine then_n (k1 _ _ ?_)
 clear k1 K1
 refine W_seq_k fun K2 k2 => ?_
 refine W_seq_k fun K3 k3 => ?_
 refine W_region [5, 6, 7, 8, 9] rfl (Ops_step (R_move rfl) rfl rfl (Ops_step (R_nilCheck rfl) rfl rfl (Ops_step (R_fieldAddr fo113_2 rfl) rfl rfl ?_)))
 refine Ops_step (R_loadB (v := vi z0.E_) ag32 rfl aa.blk rfl) rfl rfl ?_
 refine Ops_step (R_neq rfl rfl) rfl rfl ?_
 refine Ops_nil ?_
 refine then_n (k3 _ _ ?_)
 clear k3 K3
 refine W_if rfl (fun ay => ?_) (fun ay => ?_)
 ·
  replace h := h.1 ay
  refine W_seq_k fun K5 k5 => ?_
  refine W_region [2] rfl (Ops_step (R_assign rfl) rfl rfl ?_)
  refine Ops_nil ?_
  refine then_n (k5 _ _ ?_)
  clear k5 K5
  refine W_keepB [2] fun B_ b_ => ?_
  simp only [e_, Nat.reduceAdd, Nat.reduceBEq] at b_
  subst b_
  refine W_ret ?_
  refine then_ret ?_
  clear k2 K2
  refine ⟨_, ⟨_, _, rfl, rfl, rfl⟩, ?_⟩
  exact ⟨0, z0, ac, ad, _, _, rfl, hI, aa, ae, ab, h⟩
 ·
  replace h := h.2 ay
  refine W_skip ?_
  refine then_n (k2 _ _ ?_)
  clear k2 K2
  refine W_keepB [0] fun B_ b_ => ?_
  simp only [e_, Nat.reduceAdd, Nat.reduceBEq] at b_
  subst b_
  refine W_seq_k fun K8 k8 => ?_
  refine W_drawF [11, 12, 13, 14, 15, 16, 17, 18, 19, 20, 10, 21, 22, 3, 4] [(0, true), (1, true), (2, true), (3, true), (4, true), (5, true), (6, true), (7, true), (8, true), (9, false), (10, true), (11, true), (12, true), (13, true), (14, true)] TJtH.hm rfl (by kernel_rfl) fun ba bl ag az => ?_
  replace hI := hI.fr0 az
  replace aa := aa.fr0 az
  clear az
  refine HSp (R_move rfl) rfl rfl (HSp (R_nilCheck rfl) rfl rfl (HSp (R_fieldAddr fo113_0 rfl) rfl rfl ?_))
  refine HS_loadB (v := .slice ac z0.B_.length ad) ag29 rfl aa.blk rfl rfl rfl ?_
  refine HSp (R_move rfl) rfl rfl (HSp (R_nilCheck rfl) rfl rfl (HSp (R_fieldAddr fo113_1 rfl) rfl rfl ?_))
  refine HS_loadB (v := vi z0.At_) ag3 rfl aa.blk rfl rfl rfl ?_
  have am := h.1
  replace h := h.2
  have an := h.1
  replace h := h.2
  refine Exists.elim (cut_ex (n := 1) (l := z0.At_) (h := (z0.B_.length : Int)) ab rfl (by decide) ae am an (Int.le_refl _)) fun be af => Exists.elim af fun bf af => ?_
  have ao := af.1
  have a5 := af.2.1
  have a6 := af.2.2
  clear af
  refine HSp (X_slice (xs := z0.B_) Try.underlying29 sz5 rfl ao ae rfl rfl am an (Int.le_refl _)) rfl rfl ?_
  clear ao
  refine HS_call [] _ rfl (by rw [ag]; kernel_rfl) (C_func bd88 rfl) rfl rfl ?_
  refine (sealskinref02_number_ok (x0 := (cut z0.B_ z0.At_ (z0.B_.length : Int))) hI.st (hg.up hI.le) a5 a6 h).mono ?_
  rintro _ bg ⟨ap, ah, bh, a7, rfl, aq, h⟩
  refine Exists.elim (hI.call aq (by simp)) fun bc aj => ?_
  have bd := hI.size
  replace hI := aj.1
  have a4 := aj.2.1
  have a8 := aj.2.2
  clear aj
  replace ab := ab.up a4.hh
  replace aa := aa.up a4 (by simp)
  clear aq a4 a8
  refine ⟨_, rfl, trivial, ?_⟩
  refine HSp (R_move rfl) rfl rfl ?_
  refine HSp (R_extract (v := vi ap) rfl rfl) rfl rfl ?_
  refine HSp (R_extract (v := vi ah) rfl rfl) rfl rfl ?_
  refine HSp (R_assign rfl) rfl rfl (HSp (R_assign rfl) rfl rfl ?_)
  refine HS_nil ?_
  clear ag
  refine then_n (k8 _ _ ?_)
  clear k8 K8
  refine W_keepB [0, 3, 4] fun B_ b_ => ?_
  simp only [e_, Nat.reduceAdd, Nat.reduceBEq] at b_
  subst b_
  refine W_seq_k fun K15 k15 => ?_
  refine W_seq_k fun K16 k16 => ?_
  refine W_region [23, 24] rfl (Ops_step (R_move rfl) rfl rfl (Ops_step (R_neq rfl rfl) rfl rfl ?_))
  refine Ops_nil ?_
  refine then_n (k16 _ _ ?_)
  clear k16 K16
  refine W_if rfl (fun ai => ?_) (fun ai => ?_)
  ·
   replace h := h.1 ai
   refine W_seq_k fun K18 k18 => ?_
   refine W_region [25, 26, 27, 28, none] rfl (Ops_step (R_move rfl) rfl rfl (Ops_step (R_move rfl) rfl rfl (Ops_step (R_nilCheck rfl) rfl rfl (Ops_step (R_fieldAddr fo113_2 rfl) rfl rfl ?_))))
   refine Ops_to0 (R_store sz32 rfl rfl aa.blk (by show 2 < 3; decide) rfl) rfl ?_
   rintro _ bi ⟨ar, au⟩
   replace hI := hI.tok au (out1 aa.out) (mem1 (by simp))
   replace aa : Tok a7 _ d0 113 ([.slice ac z0.B_.length ad, vi z0.At_, vi ah]) := ⟨ar, aa.out⟩
   clear au ar
   refine Ops_nil ?_
   refine then_n (k18 _ _ ?_)
   clear k18 K18
   refine W_keepB [] fun B_ b_ => ?_
   simp only [e_, Nat.reduceAdd, Nat.reduceBEq] at b_
   subst b_
   refine W_seq_k fun K21 k21 => ?_
   refine W_region [2] rfl (Ops_step (R_assign rfl) rfl rfl ?_)
   refine Ops_nil ?_
   refine then_n (k21 _ _ ?_)
   clear k21 K21
   refine W_ret ?_
   refine then_ret ?_
   clear k15 K15
   refine ⟨_, ⟨_, _, rfl, rfl, rfl⟩, ?_⟩
   exact ⟨0, (sealskinref02_Reader.mk z0.B_ z0.At_ ah), ac, ad, _, _, rfl, hI, aa, ae, ab, h⟩
  ·
   replace h := h.2 ai
   refine W_skip ?_
   refine then_n (k15 _ _ ?_)
   clear k15 K15
   refine W_seq_k fun K22 k22 => ?_
   refine W_region [29, 30, 31, 32, 33, 34, 35, none] rfl (Ops_step (R_move rfl) rfl rfl (Ops_step (R_nilCheck rfl) rfl rfl (Ops_step (R_fieldAddr fo113_1 rfl) rfl rfl ?_)))
   refine Ops_step (R_loadB (v := vi z0.At_) ag3 rfl aa.blk rfl) rfl rfl ?_
   have av := h.1
   replace h := h.2
   refine Ops_step (R_add rfl rfl (wI av.1 av.2)) rfl rfl (Ops_step (R_nilCheck rfl) rfl rfl (Ops_step (R_fieldAddr fo113_1 rfl) rfl rfl ?_))
   refine Ops_to0 (R_store sz3 rfl rfl aa.blk (by show 1 < 3; decide) rfl) rfl ?_
   rintro _ bj ⟨aw, ax⟩
   replace hI := hI.tok ax (out1 aa.out) (mem1 (by simp))
   replace aa : Tok a7 _ d0 113 ([.slice ac z0.B_.length ad, vi (z0.At_ + 8), vi z0.E_]) := ⟨aw, aa.out⟩
   clear ax aw
   refine Ops_nil ?_
   refine then_n (k22 _ _ ?_)
   clear k22 K22
   refine W_keepB [3] fun B_ b_ => ?_
   simp only [e_, Nat.reduceAdd, Nat.reduceBEq] at b_
   subst b_
   refine W_seq_k fun K26 k26 => ?_
   refine W_region [36, 2] rfl (Ops_step (R_move rfl) rfl rfl (Ops_step (R_assign rfl) rfl rfl ?_))
   refine Ops_nil ?_
   refine then_n (k26 _ _ ?_)
   clear k26 K26
   refine W_ret ?_
   refine ⟨_, ⟨_, _, rfl, rfl, rfl⟩, ?_⟩
   exact ⟨ap, (sealskinref02_Reader.mk z0.B_ (z0.At_ + 8) z0.E_), ac, ad, _, _, rfl, hI, aa, ae, ab, h⟩

end Go.Proofs.Ytkmljjhjojolcaa

