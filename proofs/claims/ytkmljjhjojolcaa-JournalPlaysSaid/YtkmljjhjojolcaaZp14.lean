/- What is shown of the program on the way to the law. -/
import Derived.Test.YtkmljjhjojolcaaZp3
import Derived.Test.YtkmljjhjojolcaaZp4
import Derived.Test.YtkmljjhjojolcaaZp11
import Derived.Test.YtkmljjhjojolcaaZp12
import Derived.Test.YtkmljjhjojolcaaZp13
import Derived.Test.YtkmljjhjojolcaaProg
set_option linter.unusedVariables false
set_option linter.unusedSimpArgs false
set_option maxHeartbeats 4000000
namespace Go.Proofs.Ytkmljjhjojolcaa
open Go Go.Sx Go.Lx
namespace TJtI
theorem hm : Try.prog.follows .mixedOrders = true := by kernel_rfl
theorem ag29 : aggB Try.prog 29 = some false := by kernel_rfl
theorem ag3 : aggB Try.prog 3 = some false := by kernel_rfl
theorem ag36 : aggB Try.prog 36 = some false := by kernel_rfl
theorem ag39 : aggB Try.prog 39 = some true := by kernel_rfl
theorem ag4 : aggB Try.prog 4 = some false := by kernel_rfl
theorem ag64 : aggB Try.prog 64 = some false := by kernel_rfl
theorem ag9 : aggB Try.prog 9 = some false := by kernel_rfl
theorem bd27 : bodied Try.prog 27 = true := by kernel_rfl
theorem bd52 : bodied Try.prog 52 = true := by kernel_rfl
theorem bd54 : bodied Try.prog 54 = true := by kernel_rfl
theorem bd60 : bodied Try.prog 60 = true := by kernel_rfl
theorem bd61 : bodied Try.prog 61 = true := by kernel_rfl
theorem bd62 : bodied Try.prog 62 = true := by kernel_rfl
theorem bd72 : bodied Try.prog 72 = true := by kernel_rfl
theorem bd73 : bodied Try.prog 73 = true := by kernel_rfl
theorem bd74 : bodied Try.prog 74 = true := by kernel_rfl
theorem bd75 : bodied Try.prog 75 = true := by kernel_rfl
theorem bd76 : bodied Try.prog 76 = true := by kernel_rfl
theorem bd77 : bodied Try.prog 77 = true := by kernel_rfl
theorem bd78 : bodied Try.prog 78 = true := by kernel_rfl
theorem bd87 : bodied Try.prog 87 = true := by kernel_rfl
theorem el116 : Elem Try.prog 116 3 1 8 := Elem.of (by kernel_rfl)
theorem el29 : Elem Try.prog 29 5 1 1 := Elem.of (by kernel_rfl)
theorem el36 : Elem Try.prog 36 39 2 24 := Elem.of (by kernel_rfl)
theorem fo39_0 : offB Try.prog 39 0 = some 0 := by kernel_rfl
theorem fo39_1 : offB Try.prog 39 1 = some 1 := by kernel_rfl
theorem fo73_0 : offB Try.prog 73 0 = some 0 := by kernel_rfl
theorem fo73_1 : offB Try.prog 73 1 = some 1 := by kernel_rfl
theorem fo73_2 : offB Try.prog 73 2 = some 2 := by kernel_rfl
theorem fo73_3 : offB Try.prog 73 3 = some 3 := by kernel_rfl
theorem fo81_0 : offB Try.prog 81 0 = some 0 := by kernel_rfl
theorem fo81_2 : offB Try.prog 81 2 = some 4 := by kernel_rfl
theorem pl113 : partPl Try.prog 113 = some [(0, 1), (1, 1), (2, 1)] := by kernel_rfl
theorem pl39 : partPl Try.prog 39 = some [(0, 1), (1, 1)] := by kernel_rfl
theorem sz29 : sz Try.prog 29 = some 1 := by kernel_rfl
theorem sz3 : sz Try.prog 3 = some 1 := by kernel_rfl
theorem sz39 : sz Try.prog 39 = some 2 := by kernel_rfl
theorem sz9 : sz Try.prog 9 = some 1 := by kernel_rfl
theorem zr113 : zr Try.prog 113 = some ([.slice none 0 0] ++ [.int .i64 0] ++ [.int .i64 0]) := by kernel_rfl
theorem zr3 : zr Try.prog 3 = some ([.int .i64 0]) := by kernel_rfl
theorem zr39 : zr Try.prog 39 = some ([.int .i64 0] ++ [.string ByteArray.empty]) := by kernel_rfl
end TJtI
open TJtI
theorem sealskinref06_rest_ok {G : Gh} {w : World} (hS : St G w) (hg : GL G) {A0 : Option Addr} {c0 : Nat} {x0 : List (List UInt8)} (hc0 : x0.length ≤ c0) (hs0 : Sl G A0 x0) {x1 : Int} {Q : (List sealskinref06_Record) → Prop} (h : sealskinref06_rest x0 x1 Q) : Calls Try.prog 58 #[.slice A0 x0.length c0, vi x1] w fun e w2 => ∃ (A0 : Option Addr) (c0 : Nat) (r0 : List sealskinref06_Record) (L H : Gh), e = .returned (.slice A0 r0.length c0) ∧ Inv [] G w L H w2 ∧ OwnS w.heap.size 39 L H w2 A0 c0 r0 ∧ Q r0 := by
 unfold sealskinref06_rest at h
 have hI := Inv.start (M := []) hS
 refine calls_W 46 Try.func58 rfl Try.ntmps58 rfl [.tmp 4] rfl ?_
 refine W_seq_k fun K1 k1 => ?_
 refine W_region [4] rfl (Ops_step (R_assign rfl) rfl rfl ?_)
 refine Ops_nil ?_
 refine then_n (k1 _ _ ?_)
 clear k1 K1
 refine W_seq_k fun K2 k2 => ?_
 refine W_region [5] rfl (Ops_step (R_assign rfl) rfl rfl ?_)
 refine Ops_nil ?_
 refine then_n (k2 _ _ ?_)
 clear k2 K2
 refine ex_ h fun ey cu h => ?_
 refine W_seq_join [] [5] (fun vals_ w2 => ∃ (bl : List sealskinref06_Record) (b6 : Option Addr) (b7 : Nat) (L H : Gh), vals_ = [.slice b6 bl.length b7] ∧ ey bl ∧ Inv [] G w L H w2 ∧ Le Gh.no L ∧ Le G H ∧ OwnS w.heap.size 39 L H w2 b6 b7 bl ∧ True) (fun B_ b_ => ?_) (fun B_ b_ => ?_)
 ·
  simp only [e_, Nat.reduceAdd, Nat.reduceBEq] at b_
  subst b_
  clear cu
  have ac := Le.refl Gh.no
  have ad := Le.refl G
  refine W_seq_k fun K4 k4 => ?_
  refine W_region [11, 12, 13] rfl (Ops_step (R_move rfl) rfl rfl (Ops_step (R_len Try.underlying67 rfl rfl) rfl rfl (Ops_step (R_move rfl) rfl rfl ?_)))
  refine Ops_nil ?_
  refine then_n (k4 _ _ ?_)
  clear k4 K4
  refine W_block ?_
  refine Exists.elim h fun ez h => Exists.elim h fun e5 h => ?_
  have eh := h.1
  have c7 := h.2
  clear h
  refine W_loopB [1, 11, 12] [5, 13] (fun m vals_ w2 => ∃ (aw : List sealskinref06_Record) (a4 : Option Addr) (a5 : Nat) (ay : Int) (L H : Gh), vals_ = [.slice a4 aw.length a5, vi ay] ∧ ez m aw ay ∧ Inv [] G w L H w2 ∧ Le Gh.no L ∧ Le G H ∧ OwnS w.heap.size 39 L H w2 a4 a5 aw ∧ True) e5 _ rfl ⟨[], none, 0, 0, _, _, rfl, eh, hI, Le.refl _, Le.refl _, OwnS.nil, trivial⟩ fun B_ b_ => ?_
  clear eh
  simp only [e_, Nat.reduceAdd, Nat.reduceBEq] at b_
  subst b_
  rintro e8 _ fw ⟨aw, a4, a5, ay, fx, e9, rfl, c8, c9, ah, ag, aa, -⟩
  replace hI := c9
  clear c9
  have h := c7 e8 aw ay c8
  clear c7 c8
  replace hs0 := hs0.up ag
  replace ac := ac.trans ah
  replace ad := ad.trans ag
  refine W_seq_k fun K6 k6 => ?_
  refine W_region [14] rfl (Ops_step (R_lss rfl rfl) rfl rfl ?_)
  refine Ops_nil ?_
  refine then_n (k6 _ _ ?_)
  clear k6 K6
  refine W_seq_k fun K7 k7 => ?_
  refine W_if rfl (fun cv => ?_) (fun cv => ?_)
  ·
   replace h := h.1 cv
   refine W_skip ?_
   refine then_n (k7 _ _ ?_)
   clear k7 K7
   refine W_seq_k fun K9 k9 => ?_
   refine W_block ?_
   refine W_seq_k fun K10 k10 => ?_
   refine W_region [15, 16, 17, 6, 7] rfl (Ops_step (R_move rfl) rfl rfl ?_)
   refine ex_ h fun cw bg h => ?_
   have da := (hs0.atL bg).1
   refine Exists.elim (hs0.atL bg).2 fun db az => Exists.elim az fun dc az => ?_
   have dd := az.1
   have bq := az.2.1
   have de := az.2.2
   clear az
   refine Ops_step (R_indexSl Try.underlying67 sz29 rfl rfl bg.1 bg.lt da) rfl rfl (Ops_step (R_load ag29 rfl (hI.st _ _ de)) rfl rfl (Ops_step (R_assign rfl) rfl rfl (Ops_step (R_assign rfl) rfl rfl ?_)))
   refine Ops_nil ?_
   refine then_n (k10 _ _ ?_)
   clear k10 K10
   refine W_seq_k fun K12 k12 => ?_
   refine W_region [18, 19, 20, 8] rfl (Ops_step (R_move rfl) rfl rfl ?_)
   refine Ops_step (R_build (pl := [(0, 1)]) (cs := [.slice db cw.length dc, vi 0, vi 0]) zr113 pl113 rfl rfl rfl) rfl rfl ?_
   have be := hI
   refine Ops_to (R_box rfl) rfl rfl ?_
   rintro _ fa ⟨df, rfl, br, cc, bt⟩
   replace hI := hI.fr0 bt
   replace aa := aa.fr0 bt
   have bu : Tok e9 _ df 113 ([.slice db cw.length dc, vi 0, vi 0]) := ⟨cc.to rfl, Out.ge be.st (Nat.le_of_eq br.symm)⟩
   have ar : w.heap.size ≤ df := br ▸ be.size
   clear cc br be bt
   refine Ops_step (R_assign rfl) rfl rfl ?_
   refine Ops_nil ?_
   refine then_n (k12 _ _ ?_)
   clear k12 K12
   refine W_keepB [1, 5, 6, 8, 11, 12, 13] fun B_ b_ => ?_
   simp only [e_, Nat.reduceAdd, Nat.reduceBEq] at b_
   subst b_
   refine W_seq_k fun K15 k15 => ?_
   refine W_region [21, 22, 9] rfl (Ops_step (R_move rfl) rfl rfl ?_)
   refine Ops_call (C_func bd74 rfl) rfl rfl ?_
   refine (sealskinref02_Reader_Number_ok (z0 := (sealskinref02_Reader.mk cw 0 0)) hI.st (hg.up hI.le) bu dd bq h).mono ?_
   rintro _ fb ⟨dg, cx, dh, di, fc, fd, rfl, cd, a6, bm, an, h⟩
   refine Exists.elim (hI.call cd (new1 ar)) fun ei b8 => ?_
   have ej := hI.size
   replace hI := b8.1
   have a7 := b8.2.1
   have dj := b8.2.2
   clear b8
   replace hs0 := hs0.up a7.hh
   replace ac := ac.trans a7.ll
   replace ad := ad.trans a7.hh
   replace aa := aa.up a7.ll a7 (aa.ne bu.blk (by decide))
   replace ah := ah.trans a7.ll
   replace ag := ag.trans a7.hh
   replace bq := bq.up a7.hh
   clear bu
   clear cd a7 dj
   refine ⟨_, rfl, ?_⟩
   refine Ops_step (R_assign rfl) rfl rfl ?_
   refine Ops_nil ?_
   refine then_n (k15 _ _ ?_)
   clear k15 K15
   refine W_seq_k fun K17 k17 => ?_
   refine W_region [23, 24, 25, 10, none] rfl (Ops_step (R_move rfl) rfl rfl ?_)
   refine Ops_call (C_func bd72 rfl) rfl rfl ?_
   refine (sealskinref02_Reader_Within_ok (x1 := 0) (x2 := 31) (z0 := cx) hI.st (hg.up hI.le) a6 bm an h).mono ?_
   rintro _ fe ⟨aq, cy, dk, dl, ff, dm, rfl, ce, ae, bn, ao, h⟩
   refine Exists.elim (hI.call ce (new1 ar)) fun ek b9 => ?_
   have en := hI.size
   replace hI := b9.1
   have a8 := b9.2.1
   have dn := b9.2.2
   clear b9
   replace hs0 := hs0.up a8.hh
   replace ac := ac.trans a8.ll
   replace ad := ad.trans a8.hh
   replace aa := aa.up a8.ll a8 (aa.ne a6.blk (by decide))
   replace ah := ah.trans a8.ll
   replace ag := ag.trans a8.hh
   replace an := an.up a8.hh
   clear a6
   clear ce a8 dn
   refine ⟨_, rfl, ?_⟩
   refine Ops_step (R_build (pl := [(0, 1)]) (cs := [vi aq, vs (Str.mk [])]) zr39 pl39 rfl rfl rfl) rfl rfl ?_
   have ba := aa.lt
   have be := hI
   refine Ops_to (R_alloc zr39) rfl rfl ?_
   rintro _ fg ⟨bf, rfl, bv, cf, bh⟩
   replace hI := hI.fr0 bh
   replace aa := aa.fr0 bh
   replace ae := ae.fr0 bh
   have ab : Tok dm _ bf 39 ([vi 0, vs (Str.mk [])]) := ⟨cf.to rfl, Out.ge be.st (Nat.le_of_eq bv.symm)⟩
   have bc : w.heap.size ≤ bf := bv ▸ be.size
   have ai : ∀ i_ ∈ bk a4 a5, i_ ∉ [bf] := fun i_ hi_ hm_ => by have h_ := ba i_ hi_; rw [List.mem_singleton] at hm_; omega
   clear cf bv be bh
   refine Ops_to0 (R_storeN sz39 rfl rfl rfl ab.blk (Nat.le_of_ble_eq_true rfl) rfl) rfl ?_
   rintro _ fh ⟨cg, bi⟩
   replace hI := hI.tok bi (out1 ab.out) (new1 bc)
   replace aa := aa.fr bi ai
   replace ae := ae.fr bi (ae.apart ab (by decide))
   replace ab : Tok dm _ bf 39 ([vi aq, vs (Str.mk [])]) := ⟨cg, ab.out⟩
   clear bi cg
   refine Ops_nil ?_
   refine then_n (k17 _ _ ?_)
   clear k17 K17
   refine W_seq_k fun K21 k21 => ?_
   refine W_region [26, 27, 28, 29, none] rfl (Ops_step (R_move rfl) rfl rfl ?_)
   refine Ops_call (C_func bd75 rfl) rfl rfl ?_
   refine (sealskinref02_Reader_Bytes_ok (x1 := 16320) (z0 := cy) hI.st (hg.up hI.le) ae bn ao h).mono ?_
   rintro _ fi ⟨eo, ep, au, cz, dp, dq, fj, fk, rfl, ci, ak, af, bo, aj, h⟩
   refine Exists.elim (hI.call ci (new1 ar)) fun eq ca => ?_
   have dr := hI.size
   replace hI := ca.1
   have ax := ca.2.1
   have dt := ca.2.2
   clear ca
   replace hs0 := hs0.up ax.hh
   replace ac := ac.trans ax.ll
   replace ad := ad.trans ax.hh
   replace aa := aa.up ax.ll ax (aa.ne ae.blk (by decide))
   replace ah := ah.trans ax.ll
   replace ag := ag.trans ax.hh
   replace ao := ao.up ax.hh
   replace ab := ab.up ax (ab.apart ae (by decide))
   clear ae
   replace ak := OwnS.backS ak dr (Le.refl _)
   clear ci ax dt
   refine ⟨_, rfl, ?_⟩
   refine Exists.elim (ak.freeze hI) fun du bp => Exists.elim bp fun c5 bp => ?_
   replace hI := bp.1
   have av := bp.2.1
   have dv := bp.2.2.1 (Le.no _)
   have et := ak.cap
   replace hs0 := hs0.up av.hh
   replace ac := ac.trans av.ll
   replace ad := ad.trans av.hh
   replace aa := aa.up av.ll av (aa.sep ak (by decide))
   replace ah := ah.trans av.ll
   replace ag := ag.trans av.hh
   replace ab := ab.up av (ab.sep ak (by decide))
   replace af := af.up av (af.sep ak (by decide))
   replace aj := aj.up av.hh
   clear bp av ak
   refine Ops_step (X_bytesStr (bs := au) Try.underlying29 Try.underlying5 Try.underlying9 rfl rfl ((dv.up hI.sub).fz.rd hI.st)) rfl rfl ?_
   refine Ops_step (R_fieldAddr fo39_1 rfl) rfl rfl ?_
   refine Ops_to0 (R_store sz9 rfl rfl ab.blk (by show 1 < 2; decide) rfl) rfl ?_
   rintro _ fm ⟨cj, bj⟩
   replace hI := hI.tok bj (out1 ab.out) (new1 bc)
   replace aa := aa.fr bj ai
   replace af := af.fr bj (af.apart ab (by decide))
   replace ab : Tok c5 _ bf 39 ([vi aq, vs (Str.mk au)]) := ⟨cj, ab.out⟩
   clear bj cj
   refine Ops_nil ?_
   refine then_n (k21 _ _ ?_)
   clear k21 K21
   refine W_keepB [1, 5, 6, 8, 9, 10, 11, 12, 13] fun B_ b_ => ?_
   simp only [e_, Nat.reduceAdd, Nat.reduceBEq] at b_
   subst b_
   refine W_seq_k fun K26 k26 => ?_
   refine ex_ h fun ea bw h => ?_
   refine W_seq_join [1, 5, 10, 11, 12, 13] [39] (fun vals_ w2 => ∃ (a9 : Bool) (L H : Gh), vals_ = [.bool a9] ∧ ea a9 ∧ Inv [] G w L H w2 ∧ Le du L ∧ Le c5 H ∧ OwnS w.heap.size 39 L H w2 a4 a5 aw ∧ Tok H w2 bf 39 ([vi aq, vs (Str.mk au)]) ∧ (∀ i ∈ bk a4 a5, i ∉ [bf]) ∧ True) (fun B_ b_ => ?_) (fun B_ b_ => ?_)
   ·
    simp only [e_, Nat.reduceAdd, Nat.reduceBEq] at b_
    subst b_
    clear bw
    have am := Le.refl du
    have al := Le.refl c5
    refine W_region [30, 31, 32, 33, 34, 35, 36, 37, 38, 39] rfl (Ops_step (R_move rfl) rfl rfl ?_)
    refine Ops_call (C_func bd73 rfl) rfl rfl ?_
    refine (sealskinref02_Reader_End_ok (z0 := cz) hI.st (hg.up hI.le) af bo aj h).mono ?_
    rintro _ fo ⟨eu, fp, fq, rfl, ck, h⟩
    refine Exists.elim (hI.call ck (by simp)) fun ew cb => ?_
    have ex := hI.size
    replace hI := cb.1
    have ap := cb.2.1
    have dw := cb.2.2
    clear cb
    replace hs0 := hs0.up ap.hh
    replace ac := ac.trans ap.ll
    replace ad := ad.trans ap.hh
    replace aa := aa.up ap.ll ap (by simp)
    replace ah := ah.trans ap.ll
    replace ag := ag.trans ap.hh
    replace ab := ab.up ap (by simp)
    replace af := af.up ap (by simp)
    replace aj := aj.up ap.hh
    replace am := am.trans ap.ll
    replace al := al.trans ap.hh
    clear ck ap dw
    refine ⟨_, rfl, ?_⟩
    refine Ops_step (R_neq rfl rfl) rfl rfl (Ops_step (R_move rfl) rfl rfl ?_)
    refine Ops_split 33 rfl (fun bx => ?_) (fun bx => ?_)
    ·
     replace h := h.1 bx
     refine Ops_pass rfl rfl (Ops_pass rfl rfl (Ops_pass rfl rfl (Ops_pass rfl rfl (Ops_pass rfl rfl ?_))))
     refine Ops_step (R_pick_true rfl rfl) rfl rfl ?_
     refine Ops_nil ?_
     refine then_n ?_
     exact ⟨_, rfl, ⟨true, _, _, rfl, h, hI, am, al, aa, ab, ai, trivial⟩, ⟨rfl, rfl, rfl, rfl, rfl, rfl, trivial⟩⟩
    ·
     replace h := h.2 bx
     refine Ops_step (R_move rfl) rfl rfl (Ops_step (R_move rfl) rfl rfl (Ops_step (R_move rfl) rfl rfl ?_))
     have cl := h.1
     replace h := h.2
     refine Ops_step (R_add rfl rfl (wI cl.1 cl.2)) rfl rfl (Ops_step (R_neq rfl rfl) rfl rfl (Ops_step (R_pick_false rfl rfl) rfl rfl ?_))
     refine Ops_nil ?_
     refine then_n ?_
     exact ⟨_, rfl, ⟨(decide (dg ≠ (x1 + ay))), _, _, rfl, h, hI, am, al, aa, ab, ai, trivial⟩, ⟨rfl, rfl, rfl, rfl, rfl, rfl, trivial⟩⟩
   ·
    simp only [e_, Nat.reduceAdd, Nat.reduceBEq] at b_
    subst b_
    clear h
    clear aa
    clear ab
    rintro _ ft ⟨a9, eb, ec, rfl, cm, co, am, al, aa, ab, b5, -⟩
    replace hI := co
    clear co
    have h := bw a9 cm
    clear bw cm
    replace hs0 := hs0.up al
    replace ac := ac.trans am
    replace ad := ad.trans al
    replace ah := ah.trans am
    replace ag := ag.trans al
    refine W_cond rfl (fun bz => ?_) (fun bz => ?_)
    ·
     replace h := h.1 bz
     refine W_exit ?_
     refine then_exit ?_
     clear k26 K26
     refine block_other rfl ?_
     refine then_exit ?_
     clear k9 K9
     refine then_exit ?_
     refine block_exit ?_
     refine then_n ?_
     exact ⟨_, rfl, ⟨aw, a4, a5, _, _, rfl, h, hI, ac, ad, aa, trivial⟩, trivial⟩
    ·
     replace h := h.2 bz
     refine W_skip ?_
     refine then_n (k26 _ _ ?_)
     clear k26 K26
     refine W_region [40, 41, 42, 43, 5] rfl (Ops_step (R_move rfl) rfl rfl (Ops_step (R_loadN ag39 sz39 rfl ab.blk (Nat.le_of_ble_eq_true rfl)) rfl rfl ?_))
     have bd := aa.lt
     refine Ops_to (R_buildSlice el36 zr39 (by decide) (by decide) rfl rfl) rfl rfl ?_
     rintro _ fu ⟨dx, rfl, dy, cp, b4⟩
     have dz : OwnS w.heap.size 39 eb ec _ (some ⟨dx, 0, none⟩) 1 ([(sealskinref06_Record.mk aq (Str.mk au))] : List sealskinref06_Record) := OwnS.ofBlk (css := [[vi aq, vs (Str.mk au)]]) hI.st dy cp (.cons rfl .nil) rfl (by have := hI.size; omega) (by show 1 ≤ maxLen; decide)
     replace hI := hI.fr0 b4
     replace aa := aa.fr0 b4
     clear b4 cp
     have cq : ∀ i ∈ bk (some ⟨dx, 0, none⟩) 1, i ∉ bk a4 a5 := sep_new (fun i_ hi_ => by have := (bk_of hi_).1; simp only [blkOf, List.mem_singleton] at this; omega) bd
     have d5 := h.1
     replace h := h.2
     refine Ops_to (X_append (α := sealskinref06_Record) (xs := aw) (ys := ([(sealskinref06_Record.mk aq (Str.mk au))] : List sealskinref06_Record)) el36 rfl rfl aa (Srcs.ofOwn Try.underlying36 dz (by decide)) hI.st d5 (by decide) hI.size) rfl rfl ?_
     rintro _ fv ⟨ee, eg, rfl, d6, cr, c6⟩
     clear c6
     replace hI := hI.tok cr aa.out (aa.new (Nat.le_refl _))
     clear cr aa
     refine Ops_step (R_assign rfl) rfl rfl ?_
     refine Ops_nil ?_
     refine block_n ?_
     refine then_n (k9 _ _ ?_)
     clear k9 K9
     refine W_keepB [1, 5, 11, 12, 13] fun B_ b_ => ?_
     simp only [e_, Nat.reduceAdd, Nat.reduceBEq] at b_
     subst b_
     refine W_region [44, 13] rfl ?_
     have ct := h.1
     replace h := h.2
     refine Ops_step (R_add rfl rfl (wI ct.1 ct.2)) rfl rfl (Ops_step (R_move rfl) rfl rfl ?_)
     refine Ops_nil ?_
     refine then_n ?_
     exact h.elim fun m_ h => ⟨m_, _, h.1, rfl, ⟨(aw ++ ([(sealskinref06_Record.mk aq (Str.mk au))] : List sealskinref06_Record)), ee, eg, (ay + 1), _, _, rfl, h.2, hI, ah, ag, d6, trivial⟩, ⟨rfl, rfl, rfl, trivial⟩⟩
  ·
   replace h := h.2 cv
   refine W_exit ?_
   refine then_exit ?_
   clear k7 K7
   refine then_exit ?_
   refine block_exit ?_
   refine then_n ?_
   exact ⟨_, rfl, ⟨aw, a4, a5, _, _, rfl, h, hI, ac, ad, aa, trivial⟩, trivial⟩
 ·
  simp only [e_, Nat.reduceAdd, Nat.reduceBEq] at b_
  subst b_
  clear h
  rintro _ fy ⟨bl, b6, b7, f0, f8, rfl, d7, d8, ac, ad, d9, -⟩
  replace hI := d8
  clear d8
  have h := cu bl d7
  clear cu d7
  refine W_seq_k fun K37 k37 => ?_
  refine W_region [45, 4] rfl (Ops_step (R_move rfl) rfl rfl (Ops_step (R_assign rfl) rfl rfl ?_))
  refine Ops_nil ?_
  refine then_n (k37 _ _ ?_)
  clear k37 K37
  refine W_ret ?_
  refine ⟨_, ⟨_, _, rfl, rfl, rfl⟩, ?_⟩
  exact ⟨b6, b7, bl, _, _, rfl, hI, d9, h⟩

theorem sealskinref05_Disk_Wipe_ok {G : Gh} {w : World} (hS : St G w) (hg : GL G) {d0 : Nat} {z0 : sealskinref05_Disk} {a9 : Option Addr} {ba : Nat} {bc : Option Addr} {bd : Nat} {be : Option Addr} {bf : Nat} (aa : Tok G w d0 81 ([.slice a9 z0.F_.e0_.length ba, .slice bc z0.F_.e1_.length bd, .slice be z0.F_.e2_.length bf, vi z0.Room_, .bool z0.Off_, vi z0.Fuse_])) (az : z0.F_.e0_.length ≤ ba) (ab : Sl G a9 z0.F_.e0_) (a4 : z0.F_.e1_.length ≤ bd) (ac : Sl G bc z0.F_.e1_) (a5 : z0.F_.e2_.length ≤ bf) (ad : Sl G be z0.F_.e2_) {x1 : Int} {Q : Int → sealskinref05_Disk → Prop} (h : sealskinref05_Disk_Wipe z0 x1 Q) : Calls Try.prog 60 #[.pointer (some ⟨d0, 0, none⟩), vi x1] w fun e w2 => ∃ (r0 : Int) (y0 : sealskinref05_Disk) (ce : Option Addr) (cf : Nat) (cg : Option Addr) (ci : Nat) (cj : Option Addr) (ck : Nat) (L H : Gh), e = .returned (vi r0) ∧ Inv [d0] G w L H w2 ∧ Tok H w2 d0 81 ([.slice ce y0.F_.e0_.length cf, .slice cg y0.F_.e1_.length ci, .slice cj y0.F_.e2_.length ck, vi y0.Room_, .bool y0.Off_, vi y0.Fuse_]) ∧ y0.F_.e0_.length ≤ cf ∧ Sl H ce y0.F_.e0_ ∧ y0.F_.e1_.length ≤ ci ∧ Sl H cg y0.F_.e1_ ∧ y0.F_.e2_.length ≤ ck ∧ Sl H cj y0.F_.e2_ ∧ Q r0 y0 := by
 unfold sealskinref05_Disk_Wipe at h
 have hI := Inv.start (M := [d0]) hS
 refine calls_W 23 Try.func60 rfl Try.ntmps60 rfl [.tmp 4] rfl ?_
 have dc := aa.blk.lt
 refine W_seq_k fun K1 k1 => ?_
 refine W_region [4] rfl (Ops_step (R_assign rfl) rfl rfl ?_)
 refine Ops_nil ?_
 refine then_n (k1 _ _ ?_)
 clear k1 K1
 refine W_seq_k fun K2 k2 => ?_
 refine W_seq_k fun K3 k3 => ?_
 refine W_region [6, 7, 8, 5] rfl (Ops_step (R_move rfl) rfl rfl (Ops_step (R_move rfl) rfl rfl ?_))
 refine Ops_call (C_func bd52 rfl) rfl rfl ?_
 refine (sealskinref05_Disk_may_ok (x1 := x1) (z0 := z0) hI.st (hg.up hI.le) aa az ab a4 ac a5 ad h).mono ?_
 rintro _ d7 ⟨dd, d8, de, rfl, c5, h⟩
 refine Exists.elim (hI.call c5 (by simp)) fun dm db => ?_
 have dn := hI.size
 replace hI := db.1
 have c6 := db.2.1
 have df := db.2.2
 clear db
 replace ab := ab.up c6.hh
 replace ac := ac.up c6.hh
 replace ad := ad.up c6.hh
 replace aa := aa.up c6 (by simp)
 clear c5 c6 df
 refine ⟨_, rfl, ?_⟩
 refine Ops_step (R_assign rfl) rfl rfl ?_
 refine Ops_nil ?_
 refine then_n (k3 _ _ ?_)
 clear k3 K3
 refine W_seq_k fun K5 k5 => ?_
 refine W_region [9, 10] rfl (Ops_step (R_move rfl) rfl rfl (Ops_step (R_neq rfl rfl) rfl rfl ?_))
 refine Ops_nil ?_
 refine then_n (k5 _ _ ?_)
 clear k5 K5
 refine W_if rfl (fun cw => ?_) (fun cw => ?_)
 ·
  replace h := h.1 cw
  refine W_seq_k fun K7 k7 => ?_
  refine W_region [11, 4] rfl (Ops_step (R_move rfl) rfl rfl (Ops_step (R_assign rfl) rfl rfl ?_))
  refine Ops_nil ?_
  refine then_n (k7 _ _ ?_)
  clear k7 K7
  refine W_keepB [4] fun B_ b_ => ?_
  simp only [e_, Nat.reduceAdd, Nat.reduceBEq] at b_
  subst b_
  refine W_ret ?_
  refine then_ret ?_
  clear k2 K2
  refine ⟨_, ⟨_, _, rfl, rfl, rfl⟩, ?_⟩
  exact ⟨dd, z0, a9, ba, bc, bd, be, bf, _, _, rfl, hI, aa, az, ab, a4, ac, a5, ad, h⟩
 ·
  replace h := h.2 cw
  refine W_skip ?_
  refine then_n (k2 _ _ ?_)
  clear k2 K2
  refine W_keepB [0, 1] fun B_ b_ => ?_
  simp only [e_, Nat.reduceAdd, Nat.reduceBEq] at b_
  subst b_
  refine W_seq_k fun K10 k10 => ?_
  refine W_region [12, 13, 14, 15, 16, none] rfl (Ops_step (R_move rfl) rfl rfl (Ops_step (R_move rfl) rfl rfl (Ops_step (R_nilCheck rfl) rfl rfl (Ops_step (R_fieldAddr fo81_0 rfl) rfl rfl ?_))))
  have c7 := h.1
  replace h := h.2
  refine split3 c7 (fun ae => ?_) (fun ae => ?_) (fun ae => ?_)
  ·
   replace h := h.1 ae
   refine Ops_step (R_indexArrK Try.underlying51 sz29 rfl rfl ae (by decide)) rfl rfl ?_
   refine Ops_to0 (R_store sz29 rfl rfl aa.blk (by show 0 < 6; decide) rfl) rfl ?_
   rintro _ dp ⟨cl, cm⟩
   replace hI := hI.tok cm (out1 aa.out) (mem1 (by simp))
   replace aa : Tok de _ d0 81 ([.slice none 0 0, .slice bc z0.F_.e1_.length bd, .slice be z0.F_.e2_.length bf, vi z0.Room_, .bool z0.Off_, vi z0.Fuse_]) := ⟨cl, aa.out⟩
   clear cm cl
   refine Ops_nil ?_
   refine then_n (k10 _ _ ?_)
   clear k10 K10
   refine W_keepB [0] fun B_ b_ => ?_
   simp only [e_, Nat.reduceAdd, Nat.reduceBEq] at b_
   subst b_
   refine W_seq_k fun K14 k14 => ?_
   refine W_region [17, 18] rfl (Ops_step (R_move rfl) rfl rfl ?_)
   refine Ops_call (C_func bd54 rfl) rfl rfl ?_
   refine (sealskinref05_Disk_burn_ok (z0 := (sealskinref05_Disk.mk (arr3_List_UInt8.mk [] z0.F_.e1_ z0.F_.e2_) z0.Room_ z0.Off_ z0.Fuse_)) hI.st (hg.up hI.le) aa (Nat.le_refl 0) Sl.nil a4 ac a5 ad h).mono ?_
   rintro _ dq ⟨b5, bg, bh, bi, bj, bl, bm, dr, dt, rfl, co, a6, af, ag, ah, ai, aj, ak, h⟩
   refine Exists.elim (hI.call co (mem1 (by simp))) fun dg cb => ?_
   have dh := hI.size
   replace hI := cb.1
   have cx := cb.2.1
   have c8 := cb.2.2
   clear cb
   replace ac := ac.up cx.hh
   replace ad := ad.up cx.hh
   clear aa
   clear co cx c8
   refine ⟨_, rfl, ?_⟩
   refine Ops_nil ?_
   refine then_n (k14 _ _ ?_)
   clear k14 K14
   refine W_seq_k fun K16 k16 => ?_
   refine W_seq_k fun K17 k17 => ?_
   refine W_region [19, 20, 21, 22] rfl (Ops_step (R_move rfl) rfl rfl (Ops_step (R_nilCheck rfl) rfl rfl (Ops_step (R_fieldAddr fo81_2 rfl) rfl rfl ?_)))
   refine Ops_step (R_loadB (v := .bool b5.Off_) ag4 rfl a6.blk rfl) rfl rfl ?_
   refine Ops_nil ?_
   refine then_n (k17 _ _ ?_)
   clear k17 K17
   refine W_keepB [22] fun B_ b_ => ?_
   simp only [e_, Nat.reduceAdd, Nat.reduceBEq] at b_
   subst b_
   refine W_cond rfl (fun b8 => ?_) (fun b8 => ?_)
   ·
    replace h := h.1 b8
    refine W_seq_k fun K20 k20 => ?_
    refine W_region [4] rfl (Ops_step (R_assign rfl) rfl rfl ?_)
    refine Ops_nil ?_
    refine then_n (k20 _ _ ?_)
    clear k20 K20
    refine W_ret ?_
    refine then_ret ?_
    clear k16 K16
    refine ⟨_, ⟨_, _, rfl, rfl, rfl⟩, ?_⟩
    exact ⟨50, b5, bg, bh, bi, bj, bl, bm, _, _, rfl, hI, a6, af, ag, ah, ai, aj, ak, h⟩
   ·
    replace h := h.2 b8
    refine W_skip ?_
    refine then_n (k16 _ _ ?_)
    clear k16 K16
    refine W_seq_k fun K21 k21 => ?_
    refine W_region [4] rfl (Ops_step (R_assign rfl) rfl rfl ?_)
    refine Ops_nil ?_
    refine then_n (k21 _ _ ?_)
    clear k21 K21
    refine W_ret ?_
    refine ⟨_, ⟨_, _, rfl, rfl, rfl⟩, ?_⟩
    exact ⟨0, b5, bg, bh, bi, bj, bl, bm, _, _, rfl, hI, a6, af, ag, ah, ai, aj, ak, h⟩
  ·
   replace h := h.2.1 ae
   refine Ops_step (R_indexArrK Try.underlying51 sz29 rfl rfl ae (by decide)) rfl rfl ?_
   refine Ops_to0 (R_store sz29 rfl rfl aa.blk (by show 1 < 6; decide) rfl) rfl ?_
   rintro _ du ⟨cp, cq⟩
   replace hI := hI.tok cq (out1 aa.out) (mem1 (by simp))
   replace aa : Tok de _ d0 81 ([.slice a9 z0.F_.e0_.length ba, .slice none 0 0, .slice be z0.F_.e2_.length bf, vi z0.Room_, .bool z0.Off_, vi z0.Fuse_]) := ⟨cp, aa.out⟩
   clear cq cp
   refine Ops_nil ?_
   refine then_n (k10 _ _ ?_)
   clear k10 K10
   refine W_keepB [0] fun B_ b_ => ?_
   simp only [e_, Nat.reduceAdd, Nat.reduceBEq] at b_
   subst b_
   refine W_seq_k fun K24 k24 => ?_
   refine W_region [17, 18] rfl (Ops_step (R_move rfl) rfl rfl ?_)
   refine Ops_call (C_func bd54 rfl) rfl rfl ?_
   refine (sealskinref05_Disk_burn_ok (z0 := (sealskinref05_Disk.mk (arr3_List_UInt8.mk z0.F_.e0_ [] z0.F_.e2_) z0.Room_ z0.Off_ z0.Fuse_)) hI.st (hg.up hI.le) aa az ab (Nat.le_refl 0) Sl.nil a5 ad h).mono ?_
   rintro _ dv ⟨b6, bn, bo, bp, bq, br, bt, dw, dx, rfl, cr, a7, al, am, an, ao, ap, aq, h⟩
   refine Exists.elim (hI.call cr (mem1 (by simp))) fun di cc => ?_
   have dj := hI.size
   replace hI := cc.1
   have cy := cc.2.1
   have c9 := cc.2.2
   clear cc
   replace ab := ab.up cy.hh
   replace ad := ad.up cy.hh
   clear aa
   clear cr cy c9
   refine ⟨_, rfl, ?_⟩
   refine Ops_nil ?_
   refine then_n (k24 _ _ ?_)
   clear k24 K24
   refine W_seq_k fun K26 k26 => ?_
   refine W_seq_k fun K27 k27 => ?_
   refine W_region [19, 20, 21, 22] rfl (Ops_step (R_move rfl) rfl rfl (Ops_step (R_nilCheck rfl) rfl rfl (Ops_step (R_fieldAddr fo81_2 rfl) rfl rfl ?_)))
   refine Ops_step (R_loadB (v := .bool b6.Off_) ag4 rfl a7.blk rfl) rfl rfl ?_
   refine Ops_nil ?_
   refine then_n (k27 _ _ ?_)
   clear k27 K27
   refine W_keepB [22] fun B_ b_ => ?_
   simp only [e_, Nat.reduceAdd, Nat.reduceBEq] at b_
   subst b_
   refine W_cond rfl (fun b9 => ?_) (fun b9 => ?_)
   ·
    replace h := h.1 b9
    refine W_seq_k fun K30 k30 => ?_
    refine W_region [4] rfl (Ops_step (R_assign rfl) rfl rfl ?_)
    refine Ops_nil ?_
    refine then_n (k30 _ _ ?_)
    clear k30 K30
    refine W_ret ?_
    refine then_ret ?_
    clear k26 K26
    refine ⟨_, ⟨_, _, rfl, rfl, rfl⟩, ?_⟩
    exact ⟨50, b6, bn, bo, bp, bq, br, bt, _, _, rfl, hI, a7, al, am, an, ao, ap, aq, h⟩
   ·
    replace h := h.2 b9
    refine W_skip ?_
    refine then_n (k26 _ _ ?_)
    clear k26 K26
    refine W_seq_k fun K31 k31 => ?_
    refine W_region [4] rfl (Ops_step (R_assign rfl) rfl rfl ?_)
    refine Ops_nil ?_
    refine then_n (k31 _ _ ?_)
    clear k31 K31
    refine W_ret ?_
    refine ⟨_, ⟨_, _, rfl, rfl, rfl⟩, ?_⟩
    exact ⟨0, b6, bn, bo, bp, bq, br, bt, _, _, rfl, hI, a7, al, am, an, ao, ap, aq, h⟩
  ·
   replace h := h.2.2 ae
   refine Ops_step (R_indexArrK Try.underlying51 sz29 rfl rfl ae (by decide)) rfl rfl ?_
   refine Ops_to0 (R_store sz29 rfl rfl aa.blk (by show 2 < 6; decide) rfl) rfl ?_
   rintro _ dy ⟨ct, cu⟩
   replace hI := hI.tok cu (out1 aa.out) (mem1 (by simp))
   replace aa : Tok de _ d0 81 ([.slice a9 z0.F_.e0_.length ba, .slice bc z0.F_.e1_.length bd, .slice none 0 0, vi z0.Room_, .bool z0.Off_, vi z0.Fuse_]) := ⟨ct, aa.out⟩
   clear cu ct
   refine Ops_nil ?_
   refine then_n (k10 _ _ ?_)
   clear k10 K10
   refine W_keepB [0] fun B_ b_ => ?_
   simp only [e_, Nat.reduceAdd, Nat.reduceBEq] at b_
   subst b_
   refine W_seq_k fun K34 k34 => ?_
   refine W_region [17, 18] rfl (Ops_step (R_move rfl) rfl rfl ?_)
   refine Ops_call (C_func bd54 rfl) rfl rfl ?_
   refine (sealskinref05_Disk_burn_ok (z0 := (sealskinref05_Disk.mk (arr3_List_UInt8.mk z0.F_.e0_ z0.F_.e1_ []) z0.Room_ z0.Off_ z0.Fuse_)) hI.st (hg.up hI.le) aa az ab a4 ac (Nat.le_refl 0) Sl.nil h).mono ?_
   rintro _ dz ⟨b7, bu, bv, bw, bx, bz, b4, d5, d6, rfl, cv, a8, ar, au, av, aw, ax, ay, h⟩
   refine Exists.elim (hI.call cv (mem1 (by simp))) fun dk cd => ?_
   have dl := hI.size
   replace hI := cd.1
   have cz := cd.2.1
   have da := cd.2.2
   clear cd
   replace ab := ab.up cz.hh
   replace ac := ac.up cz.hh
   clear aa
   clear cv cz da
   refine ⟨_, rfl, ?_⟩
   refine Ops_nil ?_
   refine then_n (k34 _ _ ?_)
   clear k34 K34
   refine W_seq_k fun K36 k36 => ?_
   refine W_seq_k fun K37 k37 => ?_
   refine W_region [19, 20, 21, 22] rfl (Ops_step (R_move rfl) rfl rfl (Ops_step (R_nilCheck rfl) rfl rfl (Ops_step (R_fieldAddr fo81_2 rfl) rfl rfl ?_)))
   refine Ops_step (R_loadB (v := .bool b7.Off_) ag4 rfl a8.blk rfl) rfl rfl ?_
   refine Ops_nil ?_
   refine then_n (k37 _ _ ?_)
   clear k37 K37
   refine W_keepB [22] fun B_ b_ => ?_
   simp only [e_, Nat.reduceAdd, Nat.reduceBEq] at b_
   subst b_
   refine W_cond rfl (fun ca => ?_) (fun ca => ?_)
   ·
    replace h := h.1 ca
    refine W_seq_k fun K40 k40 => ?_
    refine W_region [4] rfl (Ops_step (R_assign rfl) rfl rfl ?_)
    refine Ops_nil ?_
    refine then_n (k40 _ _ ?_)
    clear k40 K40
    refine W_ret ?_
    refine then_ret ?_
    clear k36 K36
    refine ⟨_, ⟨_, _, rfl, rfl, rfl⟩, ?_⟩
    exact ⟨50, b7, bu, bv, bw, bx, bz, b4, _, _, rfl, hI, a8, ar, au, av, aw, ax, ay, h⟩
   ·
    replace h := h.2 ca
    refine W_skip ?_
    refine then_n (k36 _ _ ?_)
    clear k36 K36
    refine W_seq_k fun K41 k41 => ?_
    refine W_region [4] rfl (Ops_step (R_assign rfl) rfl rfl ?_)
    refine Ops_nil ?_
    refine then_n (k41 _ _ ?_)
    clear k41 K41
    refine W_ret ?_
    refine ⟨_, ⟨_, _, rfl, rfl, rfl⟩, ?_⟩
    exact ⟨0, b7, bu, bv, bw, bx, bz, b4, _, _, rfl, hI, a8, ar, au, av, aw, ax, ay, h⟩

theorem sealskinref06_block_ok {G : Gh} {w : World} (hS : St G w) (hg : GL G) {A0 : Option Addr} {c0 : Nat} {x0 : List UInt8} (hc0 : x0.length ≤ c0) (hs0 : Sl G A0 x0) {Q : (List UInt8) → Prop} (h : sealskinref06_block x0 Q) : Calls Try.prog 76 #[.slice A0 x0.length c0] w fun e w2 => ∃ (A0 : Option Addr) (c0 : Nat) (r0 : List UInt8) (L H : Gh), e = .returned (.slice A0 r0.length c0) ∧ Inv [] G w L H w2 ∧ OwnS w.heap.size 5 L H w2 A0 c0 r0 ∧ Q r0 := by
 unfold sealskinref06_block at h
 have hI := Inv.start (M := []) hS
 refine calls_W 11 Try.func76 rfl Try.ntmps76 rfl [.tmp 2] rfl ?_
 refine W_seq_k fun K1 k1 => ?_
 refine W_region [2] rfl (Ops_step (R_assign rfl) rfl rfl ?_)
 refine Ops_nil ?_
 refine then_n (k1 _ _ ?_)
 clear k1 K1
 refine W_seq_k fun K2 k2 => ?_
 refine W_region [6, 7, 5, 8, 9, 3, 4] rfl (Ops_step (R_move rfl) rfl rfl ?_)
 refine Ops_call (C_func bd87 rfl) rfl rfl ?_
 refine (sealskinref02_Seal_ok (x0 := x0) hI.st (hg.up hI.le) hc0 hs0 h).mono ?_
 rintro _ al ⟨ab, ac, ad, ag, am, an, rfl, ae, aa, h⟩
 refine Exists.elim (hI.call ae (by simp)) fun aj af => ?_
 have ah := hI.size
 replace hI := af.1
 have ak := af.2.1
 have ai := af.2.2
 clear af
 replace aa := OwnS.backS aa ah (Le.refl _)
 clear ae ak ai
 refine ⟨_, rfl, ?_⟩
 refine Ops_step (R_move rfl) rfl rfl ?_
 refine Ops_step (R_extract (v := .slice ab ad.length ac) rfl rfl) rfl rfl ?_
 refine Ops_step (R_extract (v := vi ag) rfl rfl) rfl rfl ?_
 refine Ops_step (R_assign rfl) rfl rfl (Ops_step (R_assign rfl) rfl rfl ?_)
 refine Ops_nil ?_
 refine then_n (k2 _ _ ?_)
 clear k2 K2
 refine W_keepB [3] fun B_ b_ => ?_
 simp only [e_, Nat.reduceAdd, Nat.reduceBEq] at b_
 subst b_
 refine W_seq_k fun K5 k5 => ?_
 refine W_region [10, 2] rfl (Ops_step (R_move rfl) rfl rfl (Ops_step (R_assign rfl) rfl rfl ?_))
 refine Ops_nil ?_
 refine then_n (k5 _ _ ?_)
 clear k5 K5
 refine W_ret ?_
 refine ⟨_, ⟨_, _, rfl, rfl, rfl⟩, ?_⟩
 exact ⟨ab, ac, ad, _, _, rfl, hI, (aa.hl (Le.no _)), h⟩

theorem sealskinref06_Head_ok {G : Gh} {w : World} (hS : St G w) (hg : GL G) {x0 : Int} {x1 : Int} {Q : (List UInt8) → Prop} (h : sealskinref06_Head x0 x1 Q) : Calls Try.prog 61 #[vi x0, vi x1] w fun e w2 => ∃ (A0 : Option Addr) (c0 : Nat) (r0 : List UInt8) (L H : Gh), e = .returned (.slice A0 r0.length c0) ∧ Inv [] G w L H w2 ∧ OwnS w.heap.size 5 L H w2 A0 c0 r0 ∧ Q r0 := by
 unfold sealskinref06_Head at h
 have hI := Inv.start (M := []) hS
 refine calls_W 10 Try.func61 rfl Try.ntmps61 rfl [.tmp 4] rfl ?_
 refine W_seq_k fun K1 k1 => ?_
 refine W_region [4] rfl (Ops_step (R_assign rfl) rfl rfl ?_)
 refine Ops_nil ?_
 refine then_n (k1 _ _ ?_)
 clear k1 K1
 refine W_seq_k fun K2 k2 => ?_
 refine W_region [5, 6, 7, 8, 9, 4] rfl (Ops_step (R_move rfl) rfl rfl (Ops_step (R_move rfl) rfl rfl ?_))
 refine Ops_to (R_buildSlice el116 zr3 (by decide) (by decide) rfl rfl) rfl rfl ?_
 rintro _ be ⟨a4, rfl, ak, af, ag⟩
 have al : OwnS w.heap.size 3 Gh.no G _ (some ⟨a4, 0, none⟩) 2 ([x0, x1] : List Int) := OwnS.ofBlk hI.st ak af (all2_sc' _) rfl (by have := hI.size; omega) (by show 2 ≤ maxLen; decide)
 replace hI := hI.fr0 ag
 clear ag af
 refine Exists.elim (al.lend hI.st (Le.no _)) fun am aa => ?_
 refine Ops_call (C_func bd77 rfl) rfl rfl ?_
 refine (sealskinref02_Put_ok (x0 := []) (x1 := ([x0, x1] : List Int)) aa.1 (hg.up (hI.le.trans aa.2.1)) (Nat.le_refl 0) Sl.nil (Nat.le_refl _) aa.2.2 h).mono ?_
 rintro _ bf ⟨a5, a6, an, bg, bh, rfl, ah, ab, h⟩
 refine Exists.elim (hI.callB aa.2.1 ah (by simp)) fun a7 ad => Exists.elim ad fun a8 ad => ?_
 have ao := hI.size
 replace hI := ad.1
 have a9 := ad.2.1
 have ap := ad.2.2.1
 have aq := ad.2.2.2
 clear ad
 replace ab := OwnS.backS ab ao aq
 clear ah a9 ap
 refine ⟨_, rfl, ?_⟩
 refine Exists.elim (ab.freeze hI) fun bi ae => Exists.elim ae fun bj ae => ?_
 replace hI := ae.1
 have ba := ae.2.1
 have ar := ae.2.2.1 (Le.no _)
 have au := ab.cap
 clear ae ba ab
 refine Ops_call (C_func bd76 rfl) rfl rfl ?_
 refine (sealskinref06_block_ok (x0 := an) hI.st (hg.up hI.le) au (ar.up hI.sub) h).mono ?_
 rintro _ bl ⟨av, aw, ax, bm, bn, rfl, ai, ac, h⟩
 refine Exists.elim (hI.call ai (by simp)) fun bc aj => ?_
 have ay := hI.size
 replace hI := aj.1
 have bd := aj.2.1
 have az := aj.2.2
 clear aj
 replace ac := OwnS.backS ac ay (Le.refl _)
 clear ai bd az
 refine ⟨_, rfl, ?_⟩
 refine Ops_step (R_assign rfl) rfl rfl ?_
 refine Ops_nil ?_
 refine then_n (k2 _ _ ?_)
 clear k2 K2
 refine W_keepB [4] fun B_ b_ => ?_
 simp only [e_, Nat.reduceAdd, Nat.reduceBEq] at b_
 subst b_
 refine W_ret ?_
 refine ⟨_, ⟨_, _, rfl, rfl, rfl⟩, ?_⟩
 exact ⟨av, aw, ax, _, _, rfl, hI, (ac.hl (Le.no _)), h⟩

theorem sealskinref06_Tell_ok {G : Gh} {w : World} (hS : St G w) (hg : GL G) {x0 : Int} {l1 : List Value} {x1 : sealskinref06_Record} (hr1 : Rp.cs G x1 l1) {Q : (List UInt8) → Prop} (h : sealskinref06_Tell x0 x1 Q) : Calls Try.prog 62 #[vi x0, .agg l1.toArray] w fun e w2 => ∃ (A0 : Option Addr) (c0 : Nat) (r0 : List UInt8) (L H : Gh), e = .returned (.slice A0 r0.length c0) ∧ Inv [] G w L H w2 ∧ OwnS w.heap.size 5 L H w2 A0 c0 r0 ∧ Q r0 := by
 unfold sealskinref06_Tell at h
 have hI := Inv.start (M := []) hS
 refine calls_W 15 Try.func62 rfl Try.ntmps62 rfl [.tmp 4] rfl ?_
 replace hr1 : l1 = [vi x1.Label_, vs x1.Data_] := hr1
 subst hr1
 refine W_seq_k fun K1 k1 => ?_
 refine W_region [3, 4] rfl ?_
 have bl := hI
 refine Ops_to (R_box rfl) rfl rfl ?_
 rintro _ dz ⟨db, rfl, bm, bx, bz⟩
 replace hI := hI.fr0 bz
 have ad : Tok G _ db 39 ([vi x1.Label_, vs x1.Data_]) := ⟨bx.to rfl, Out.ge bl.st (Nat.le_of_eq bm.symm)⟩
 have cp : w.heap.size ≤ db := bm ▸ bl.size
 clear bx bm bl bz
 refine Ops_step (R_assign rfl) rfl rfl ?_
 refine Ops_nil ?_
 refine then_n (k1 _ _ ?_)
 clear k1 K1
 refine W_seq_k fun K3 k3 => ?_
 refine W_drawS [5, 6, 7, 8, 9, 10, 11, 12, 13, 14, 4] (.q 0 (.q 1 (.q 2 (.q 5 (.q 6 (.two 3 (.two 4 (.l 7 (.l 8 (.l 9 (.q 10 .done)))) 7 (.l 4 (.l 8 (.l 9 (.q 10 .done))))) 7 (.l 3 (.l 4 (.l 8 (.l 9 (.q 10 .done))))))))))) TJtI.hm rfl (by kernel_rfl) fun dc d5 aa bn => ?_
 replace hI := hI.fr0 bn
 replace ad := ad.fr0 bn
 clear bn
 refine HSp (R_move rfl) rfl rfl (HSp (R_fieldAddr fo39_0 rfl) rfl rfl ?_)
 refine HS_loadB (v := vi x1.Label_) ag3 rfl ad.blk rfl rfl rfl ?_
 refine HSp (R_fieldAddr fo39_1 rfl) rfl rfl ?_
 refine HS_loadB (v := vs x1.Data_) ag9 rfl ad.blk rfl rfl rfl ?_
 refine HS_two ?_ ?_
 ·
  replace h := h.1
  refine Stp_to [6] _ rfl (by rw [aa]; kernel_rfl) (R_buildSlice el116 zr3 (by decide) (by decide) rfl rfl) rfl rfl ?_
  rintro _ dm ⟨dn, rfl, cq, b4, az⟩
  have bg : OwnS w.heap.size 3 Gh.no G _ (some ⟨dn, 0, none⟩) 2 ([x0, x1.Label_] : List Int) := OwnS.ofBlk hI.st cq b4 (all2_sc' _) rfl (by have := hI.size; omega) (by show 2 ≤ maxLen; decide)
  replace hI := hI.fr0 az
  replace ad := ad.fr0 az
  clear az b4
  refine ⟨⟨(ad.blk.at_ rfl), trivial⟩, ?_⟩
  refine HS_two ?_ ?_
  ·
   replace h := h.1
   refine Exists.elim (bg.lend hI.st (Le.no _)) fun cr am => ?_
   refine Stp_call [6] _ rfl (by rw [aa]; kernel_rfl) (C_func bd77 rfl) rfl rfl ?_
   refine (sealskinref02_Put_ok (x0 := []) (x1 := ([x0, x1.Label_] : List Int)) am.1 (hg.up (hI.le.trans am.2.1)) (Nat.le_refl 0) Sl.nil (Nat.le_refl _) am.2.2 h).mono ?_
   rintro _ dd ⟨dp, dq, ct, dr, dt, rfl, b5, ak, h⟩
   refine Exists.elim (hI.callB am.2.1 b5 (by simp)) fun du ax => Exists.elim ax fun dv ax => ?_
   have cu := hI.size
   replace hI := ax.1
   have bv := ax.2.1
   have cv := ax.2.2.1
   have cw := ax.2.2.2
   clear ax
   replace ad := ad.up bv (by simp)
   replace ak := OwnS.backS ak cu cw
   clear b5 bv cv
   refine ⟨_, rfl, ⟨(ad.blk.at_ rfl), trivial⟩, ?_⟩
   refine Exists.elim (ak.freeze hI) fun de aj => Exists.elim aj fun df aj => ?_
   replace hI := aj.1
   have bi := aj.2.1
   have bo := aj.2.2.1 (Le.no _)
   have cx := ak.cap
   replace ad := ad.up bi (ad.sep ak (by decide))
   clear aj bi ak
   refine HS_to [] _ rfl (by rw [aa]; kernel_rfl) (X_strBytes (s := x1.Data_) Try.underlying9 Try.underlying29 Try.underlying5 rfl) rfl rfl ?_
   rintro _ d6 ⟨d7, d8, rfl, a5, b6, b7, b8⟩
   refine Exists.elim (Inv.newRd hI b8 b6 b7) fun dg al => Exists.elim al fun dh al => ?_
   replace hI := al.1
   have bh := al.2.1
   have a6 := al.2.2
   replace ad := ad.up bh (by simp)
   replace bo := bo.up bh.ll
   clear al bh b6 b7 b8
   refine ⟨trivial, ?_⟩
   refine HS_call [] _ rfl (by rw [aa]; kernel_rfl) (C_func bd78 rfl) rfl rfl ?_
   refine (sealskinref02_PutBytes_ok (x0 := ct) (x1 := x1.Data_.b) hI.st (hg.up hI.le) cx (bo.up hI.sub) a5 (a6.up hI.sub) h).mono ?_
   rintro _ di ⟨b9, ca, a7, dj, dk, rfl, an, ab, h⟩
   refine Exists.elim (hI.call an (by simp)) fun cb ay => ?_
   have a8 := hI.size
   replace hI := ay.1
   have cc := ay.2.1
   have a9 := ay.2.2
   clear ay
   replace ab := OwnS.backS ab a8 (Le.refl _)
   clear an cc a9
   refine ⟨_, rfl, trivial, ?_⟩
   refine Exists.elim (ab.freeze hI) fun cd ae => Exists.elim ae fun ce ae => ?_
   replace hI := ae.1
   have ba := ae.2.1
   have ao := ae.2.2.1 (Le.no _)
   have ap := ab.cap
   clear ae ba ab
   refine HS_call [] _ rfl (by rw [aa]; kernel_rfl) (C_func bd76 rfl) rfl rfl ?_
   refine (sealskinref06_block_ok (x0 := a7) hI.st (hg.up hI.le) ap (ao.up hI.sub) h).mono ?_
   rintro _ cf ⟨aq, ar, au, cg, ci, rfl, ai, ac, h⟩
   refine Exists.elim (hI.call ai (by simp)) fun bj ah => ?_
   have av := hI.size
   replace hI := ah.1
   have bc := ah.2.1
   have aw := ah.2.2
   clear ah
   replace ac := OwnS.backS ac av (Le.refl _)
   clear ai bc aw
   refine ⟨_, rfl, trivial, ?_⟩
   refine HSp (R_assign rfl) rfl rfl ?_
   refine HS_nil ?_
   clear aa
   refine then_n (k3 _ _ ?_)
   clear k3 K3
   refine W_keepB [4] fun B_ b_ => ?_
   simp only [e_, Nat.reduceAdd, Nat.reduceBEq] at b_
   subst b_
   refine W_ret ?_
   refine ⟨_, ⟨_, _, rfl, rfl, rfl⟩, ?_⟩
   exact ⟨aq, ar, au, _, _, rfl, hI, (ac.hl (Le.no _)), h⟩
  ·
   replace h := h.2
   refine Stp_to [] _ rfl (by rw [aa]; kernel_rfl) (X_strBytes (s := x1.Data_) Try.underlying9 Try.underlying29 Try.underlying5 rfl) rfl rfl ?_
   rintro _ dd ⟨d9, ea, rfl, cy, cj, ck, a4⟩
   refine Exists.elim (Inv.newRd hI a4 cj ck) fun dr ax => Exists.elim ax fun dt ax => ?_
   replace hI := ax.1
   have bv := ax.2.1
   have bd := ax.2.2
   replace ad := ad.up bv (by simp)
   replace bg := bg.up (Le.refl _) bv (by simp)
   clear ax bv cj ck a4
   refine ⟨trivial, ?_⟩
   refine Exists.elim (bg.lend hI.st (Le.no _)) fun bp af => ?_
   refine HS_call [] _ rfl (by rw [aa]; kernel_rfl) (C_func bd77 rfl) rfl rfl ?_
   refine (sealskinref02_Put_ok (x0 := []) (x1 := ([x0, x1.Label_] : List Int)) af.1 (hg.up (hI.le.trans af.2.1)) (Nat.le_refl 0) Sl.nil (Nat.le_refl _) af.2.2 h).mono ?_
   rintro _ dw ⟨cz, c5, bq, de, df, rfl, be, ag, h⟩
   refine Exists.elim (hI.callB af.2.1 be (by simp)) fun c6 aj => Exists.elim aj fun c7 aj => ?_
   have br := hI.size
   replace hI := aj.1
   have bi := aj.2.1
   have bt := aj.2.2.1
   have bu := aj.2.2.2
   clear aj
   replace bd := bd.up bi.ll
   replace ag := OwnS.backS ag br bu
   clear be bi bt
   refine ⟨_, rfl, trivial, ?_⟩
   refine Exists.elim (ag.freeze hI) fun dg al => Exists.elim al fun dh al => ?_
   replace hI := al.1
   have bh := al.2.1
   have a6 := al.2.2.1 (Le.no _)
   have a5 := ag.cap
   replace bd := bd.up bh.ll
   clear al bh ag
   refine HS_call [] _ rfl (by rw [aa]; kernel_rfl) (C_func bd78 rfl) rfl rfl ?_
   refine (sealskinref02_PutBytes_ok (x0 := bq) (x1 := x1.Data_.b) hI.st (hg.up hI.le) a5 (a6.up hI.sub) cy (bd.up hI.sub) h).mono ?_
   rintro _ di ⟨b9, ca, a7, dj, dk, rfl, an, ab, h⟩
   refine Exists.elim (hI.call an (by simp)) fun cb ay => ?_
   have a8 := hI.size
   replace hI := ay.1
   have cc := ay.2.1
   have a9 := ay.2.2
   clear ay
   replace ab := OwnS.backS ab a8 (Le.refl _)
   clear an cc a9
   refine ⟨_, rfl, trivial, ?_⟩
   refine Exists.elim (ab.freeze hI) fun cd ae => Exists.elim ae fun ce ae => ?_
   replace hI := ae.1
   have ba := ae.2.1
   have ao := ae.2.2.1 (Le.no _)
   have ap := ab.cap
   clear ae ba ab
   refine HS_call [] _ rfl (by rw [aa]; kernel_rfl) (C_func bd76 rfl) rfl rfl ?_
   refine (sealskinref06_block_ok (x0 := a7) hI.st (hg.up hI.le) ap (ao.up hI.sub) h).mono ?_
   rintro _ cf ⟨aq, ar, au, cg, ci, rfl, ai, ac, h⟩
   refine Exists.elim (hI.call ai (by simp)) fun bj ah => ?_
   have av := hI.size
   replace hI := ah.1
   have bc := ah.2.1
   have aw := ah.2.2
   clear ah
   replace ac := OwnS.backS ac av (Le.refl _)
   clear ai bc aw
   refine ⟨_, rfl, trivial, ?_⟩
   refine HSp (R_assign rfl) rfl rfl ?_
   refine HS_nil ?_
   clear aa
   refine then_n (k3 _ _ ?_)
   clear k3 K3
   refine W_keepB [4] fun B_ b_ => ?_
   simp only [e_, Nat.reduceAdd, Nat.reduceBEq] at b_
   subst b_
   refine W_ret ?_
   refine ⟨_, ⟨_, _, rfl, rfl, rfl⟩, ?_⟩
   exact ⟨aq, ar, au, _, _, rfl, hI, (ac.hl (Le.no _)), h⟩
 ·
  replace h := h.2
  refine Stp_to [2] _ rfl (by rw [aa]; kernel_rfl) (X_strBytes (s := x1.Data_) Try.underlying9 Try.underlying29 Try.underlying5 rfl) rfl rfl ?_
  rintro _ dm ⟨eb, ec, rfl, c8, cl, cm, az⟩
  refine Exists.elim (Inv.newRd hI az cl cm) fun ee bw => Exists.elim bw fun dx bw => ?_
  replace hI := bw.1
  have dl := bw.2.1
  have bf := bw.2.2
  replace ad := ad.up dl (by simp)
  clear bw dl cl cm az
  refine ⟨⟨(ad.blk.at_ rfl), trivial⟩, ?_⟩
  refine HS_to [] _ rfl (by rw [aa]; kernel_rfl) (R_buildSlice el116 zr3 (by decide) (by decide) rfl rfl) rfl rfl ?_
  rintro _ dd ⟨dy, rfl, c9, co, a4⟩
  have da : OwnS w.heap.size 3 Gh.no dx _ (some ⟨dy, 0, none⟩) 2 ([x0, x1.Label_] : List Int) := OwnS.ofBlk hI.st c9 co (all2_sc' _) rfl (by have := hI.size; omega) (by show 2 ≤ maxLen; decide)
  replace hI := hI.fr0 a4
  replace ad := ad.fr0 a4
  clear a4 co
  refine ⟨trivial, ?_⟩
  refine Exists.elim (da.lend hI.st (Le.no _)) fun bp af => ?_
  refine HS_call [] _ rfl (by rw [aa]; kernel_rfl) (C_func bd77 rfl) rfl rfl ?_
  refine (sealskinref02_Put_ok (x0 := []) (x1 := ([x0, x1.Label_] : List Int)) af.1 (hg.up (hI.le.trans af.2.1)) (Nat.le_refl 0) Sl.nil (Nat.le_refl _) af.2.2 h).mono ?_
  rintro _ dw ⟨cz, c5, bq, de, df, rfl, be, ag, h⟩
  refine Exists.elim (hI.callB af.2.1 be (by simp)) fun c6 aj => Exists.elim aj fun c7 aj => ?_
  have br := hI.size
  replace hI := aj.1
  have bi := aj.2.1
  have bt := aj.2.2.1
  have bu := aj.2.2.2
  clear aj
  replace bf := bf.up bi.ll
  replace ag := OwnS.backS ag br bu
  clear be bi bt
  refine ⟨_, rfl, trivial, ?_⟩
  refine Exists.elim (ag.freeze hI) fun dg al => Exists.elim al fun dh al => ?_
  replace hI := al.1
  have bh := al.2.1
  have a6 := al.2.2.1 (Le.no _)
  have a5 := ag.cap
  replace bf := bf.up bh.ll
  clear al bh ag
  refine HS_call [] _ rfl (by rw [aa]; kernel_rfl) (C_func bd78 rfl) rfl rfl ?_
  refine (sealskinref02_PutBytes_ok (x0 := bq) (x1 := x1.Data_.b) hI.st (hg.up hI.le) a5 (a6.up hI.sub) c8 (bf.up hI.sub) h).mono ?_
  rintro _ di ⟨b9, ca, a7, dj, dk, rfl, an, ab, h⟩
  refine Exists.elim (hI.call an (by simp)) fun cb ay => ?_
  have a8 := hI.size
  replace hI := ay.1
  have cc := ay.2.1
  have a9 := ay.2.2
  clear ay
  replace ab := OwnS.backS ab a8 (Le.refl _)
  clear an cc a9
  refine ⟨_, rfl, trivial, ?_⟩
  refine Exists.elim (ab.freeze hI) fun cd ae => Exists.elim ae fun ce ae => ?_
  replace hI := ae.1
  have ba := ae.2.1
  have ao := ae.2.2.1 (Le.no _)
  have ap := ab.cap
  clear ae ba ab
  refine HS_call [] _ rfl (by rw [aa]; kernel_rfl) (C_func bd76 rfl) rfl rfl ?_
  refine (sealskinref06_block_ok (x0 := a7) hI.st (hg.up hI.le) ap (ao.up hI.sub) h).mono ?_
  rintro _ cf ⟨aq, ar, au, cg, ci, rfl, ai, ac, h⟩
  refine Exists.elim (hI.call ai (by simp)) fun bj ah => ?_
  have av := hI.size
  replace hI := ah.1
  have bc := ah.2.1
  have aw := ah.2.2
  clear ah
  replace ac := OwnS.backS ac av (Le.refl _)
  clear ai bc aw
  refine ⟨_, rfl, trivial, ?_⟩
  refine HSp (R_assign rfl) rfl rfl ?_
  refine HS_nil ?_
  clear aa
  refine then_n (k3 _ _ ?_)
  clear k3 K3
  refine W_keepB [4] fun B_ b_ => ?_
  simp only [e_, Nat.reduceAdd, Nat.reduceBEq] at b_
  subst b_
  refine W_ret ?_
  refine ⟨_, ⟨_, _, rfl, rfl, rfl⟩, ?_⟩
  exact ⟨aq, ar, au, _, _, rfl, hI, (ac.hl (Le.no _)), h⟩

theorem sealskinref06_Journal_Check_ok {G : Gh} {w : World} (hS : St G w) (hg : GL G) {d0 : Nat} {z0 : sealskinref06_Journal} {ao : Option Addr} {ap : Nat} {d1 : Nat} {z1 : sealskinref05_Disk} {cl : Option Addr} {cm : Nat} {co : Option Addr} {cp : Nat} {cq : Option Addr} {cr : Nat} (b5 : Tok G w d1 81 ([.slice cl z1.F_.e0_.length cm, .slice co z1.F_.e1_.length cp, .slice cq z1.F_.e2_.length cr, vi z1.Room_, .bool z1.Off_, vi z1.Fuse_])) (dg : z1.F_.e0_.length ≤ cm) (az : Sl G cl z1.F_.e0_) (dh : z1.F_.e1_.length ≤ cp) (a4 : Sl G co z1.F_.e1_) (di : z1.F_.e2_.length ≤ cr) (a5 : Sl G cq z1.F_.e2_) (aa : Tok G w d0 73 ([.slice ao z0.L_.length ap, .pointer (some ⟨d1, 0, none⟩), vi z0.Gen_, vi z0.File_])) (bd : z0.L_.length ≤ ap) (ac : Sl G ao z0.L_) {Q : Int → sealskinref06_Journal → sealskinref05_Disk → Prop} (h : sealskinref06_Journal_Check z0 z1 Q) : Calls Try.prog 33 #[.pointer (some ⟨d0, 0, none⟩)] w fun e w2 => ∃ (r0 : Int) (y0 : sealskinref06_Journal) (fc : Option Addr) (fd : Nat) (y1 : sealskinref05_Disk) (fe : Option Addr) (ff : Nat) (fg : Option Addr) (fh : Nat) (fi : Option Addr) (fj : Nat) (L H : Gh), e = .returned (vi r0) ∧ Inv [d0, d1] G w L H w2 ∧ Tok H w2 d0 73 ([.slice fc y0.L_.length fd, .pointer (some ⟨d1, 0, none⟩), vi y0.Gen_, vi y0.File_]) ∧ y0.L_.length ≤ fd ∧ Sl H fc y0.L_ ∧ Tok H w2 d1 81 ([.slice fe y1.F_.e0_.length ff, .slice fg y1.F_.e1_.length fh, .slice fi y1.F_.e2_.length fj, vi y1.Room_, .bool y1.Off_, vi y1.Fuse_]) ∧ y1.F_.e0_.length ≤ ff ∧ Sl H fe y1.F_.e0_ ∧ y1.F_.e1_.length ≤ fh ∧ Sl H fg y1.F_.e1_ ∧ y1.F_.e2_.length ≤ fj ∧ Sl H fi y1.F_.e2_ ∧ Q r0 y0 y1 := by
 unfold sealskinref06_Journal_Check at h
 have hI := Inv.start (M := [d0, d1]) hS
 refine calls_W 100 Try.func33 rfl Try.ntmps33 rfl [.tmp 2] rfl ?_
 have b6 := aa.blk.lt
 have b7 := b5.blk.lt
 refine W_seq_k fun K1 k1 => ?_
 refine W_region [2] rfl (Ops_step (R_assign rfl) rfl rfl ?_)
 refine Ops_nil ?_
 refine then_n (k1 _ _ ?_)
 clear k1 K1
 refine W_seq_k fun K2 k2 => ?_
 refine W_seq_k fun K3 k3 => ?_
 refine W_region [10, 11, 12, 13, 14] rfl (Ops_step (R_move rfl) rfl rfl (Ops_step (R_nilCheck rfl) rfl rfl (Ops_step (R_fieldAddr fo73_2 rfl) rfl rfl ?_)))
 refine Ops_step (R_loadB (v := vi z0.Gen_) ag3 rfl aa.blk rfl) rfl rfl ?_
 refine Ops_step (R_eql rfl rfl) rfl rfl ?_
 refine Ops_nil ?_
 refine then_n (k3 _ _ ?_)
 clear k3 K3
 refine W_if rfl (fun gi => ?_) (fun gi => ?_)
 ·
  replace h := h.1 gi
  refine W_seq_k fun K5 k5 => ?_
  refine W_region [2] rfl (Ops_step (R_assign rfl) rfl rfl ?_)
  refine Ops_nil ?_
  refine then_n (k5 _ _ ?_)
  clear k5 K5
  refine W_keepB [2] fun B_ b_ => ?_
  simp only [e_, Nat.reduceAdd, Nat.reduceBEq] at b_
  subst b_
  refine W_ret ?_
  refine then_ret ?_
  clear k2 K2
  refine ⟨_, ⟨_, _, rfl, rfl, rfl⟩, ?_⟩
  exact ⟨5, z0, ao, ap, z1, cl, cm, co, cp, cq, cr, _, _, rfl, hI, aa, bd, ac, b5, dg, az, dh, a4, di, a5, h⟩
 ·
  replace h := h.2 gi
  refine W_skip ?_
  refine then_n (k2 _ _ ?_)
  clear k2 K2
  refine W_keepB [0] fun B_ b_ => ?_
  simp only [e_, Nat.reduceAdd, Nat.reduceBEq] at b_
  subst b_
  refine W_seq_k fun K8 k8 => ?_
  refine W_region [3] rfl (Ops_step (R_assign rfl) rfl rfl ?_)
  refine Ops_nil ?_
  refine then_n (k8 _ _ ?_)
  clear k8 K8
  refine ex_ h fun jl gj h => ?_
  refine W_seq_join [0] [3] (fun vals_ w2 => ∃ (b8 : Int) (L H : Gh), vals_ = [vi b8] ∧ jl b8 ∧ Inv [d0, d1] G w L H w2 ∧ Le Gh.no L ∧ Le G H ∧ Tok H w2 d1 81 ([.slice cl z1.F_.e0_.length cm, .slice co z1.F_.e1_.length cp, .slice cq z1.F_.e2_.length cr, vi z1.Room_, .bool z1.Off_, vi z1.Fuse_]) ∧ Tok H w2 d0 73 ([.slice ao z0.L_.length ap, .pointer (some ⟨d1, 0, none⟩), vi z0.Gen_, vi z0.File_]) ∧ True) (fun B_ b_ => ?_) (fun B_ b_ => ?_)
  ·
   simp only [e_, Nat.reduceAdd, Nat.reduceBEq] at b_
   subst b_
   clear gj
   have dj := Le.refl Gh.no
   have be := Le.refl G
   refine W_seq_k fun K10 k10 => ?_
   refine W_region [15, 16, 17, 18, 19] rfl (Ops_step (R_move rfl) rfl rfl (Ops_step (R_nilCheck rfl) rfl rfl (Ops_step (R_fieldAddr fo73_3 rfl) rfl rfl ?_)))
   refine Ops_step (R_loadB (v := vi z0.File_) ag3 rfl aa.blk rfl) rfl rfl ?_
   refine Ops_step (R_eql rfl rfl) rfl rfl ?_
   refine Ops_nil ?_
   refine then_n (k10 _ _ ?_)
   clear k10 K10
   refine W_if rfl (fun dk => ?_) (fun dk => ?_)
   ·
    replace h := h.1 dk
    refine W_region [3] rfl (Ops_step (R_assign rfl) rfl rfl ?_)
    refine Ops_nil ?_
    refine then_n ?_
    exact ⟨_, rfl, ⟨2, _, _, rfl, h, hI, dj, be, b5, aa, trivial⟩, ⟨rfl, trivial⟩⟩
   ·
    replace h := h.2 dk
    refine W_skip ?_
    refine then_n ?_
    exact ⟨_, rfl, ⟨1, _, _, rfl, h, hI, dj, be, b5, aa, trivial⟩, ⟨rfl, trivial⟩⟩
  ·
   simp only [e_, Nat.reduceAdd, Nat.reduceBEq] at b_
   subst b_
   clear h
   clear aa
   clear b5
   rintro _ kp ⟨b8, kq, kr, rfl, gp, gq, dj, be, b5, aa, -⟩
   replace hI := gq
   clear gq
   have h := gj b8 gp
   clear gj gp
   replace ac := ac.up be
   replace az := az.up be
   replace a4 := a4.up be
   replace a5 := a5.up be
   refine W_seq_k fun K12 k12 => ?_
   refine W_seq_k fun K13 k13 => ?_
   refine W_region [20, 21, 22, 23, 24, 25, 4] rfl (Ops_step (R_move rfl) rfl rfl (Ops_step (R_nilCheck rfl) rfl rfl (Ops_step (R_fieldAddr fo73_1 rfl) rfl rfl ?_)))
   refine Ops_step (R_loadB (v := .pointer (some ⟨d1, 0, none⟩)) ag64 rfl aa.blk rfl) rfl rfl ?_
   refine Ops_step (R_move rfl) rfl rfl ?_
   refine Ops_call (C_func bd60 rfl) rfl rfl ?_
   refine (sealskinref05_Disk_Wipe_ok (x1 := b8) (z0 := z1) hI.st (hg.up hI.le) b5 dg az dh a4 di a5 h).mono ?_
   rintro _ jm ⟨gr, ak, bf, bg, bh, bi, bj, bl, jn, jo, rfl, fk, ab, bp, ad, bq, ae, br, af, h⟩
   refine Exists.elim (hI.call fk (mem1 (by simp))) fun i7 ex => ?_
   have i8 := hI.size
   replace hI := ex.1
   have cy := ex.2.1
   have gt := ex.2.2
   clear ex
   replace ac := ac.up cy.hh
   replace az := az.up cy.hh
   replace a4 := a4.up cy.hh
   replace a5 := a5.up cy.hh
   replace aa := aa.up cy (aa.apart b5 (by decide))
   clear b5
   clear fk cy gt
   refine ⟨_, rfl, ?_⟩
   refine Ops_step (R_assign rfl) rfl rfl ?_
   refine Ops_nil ?_
   refine then_n (k13 _ _ ?_)
   clear k13 K13
   refine W_keepB [0, 3, 4] fun B_ b_ => ?_
   simp only [e_, Nat.reduceAdd, Nat.reduceBEq] at b_
   subst b_
   refine W_seq_k fun K16 k16 => ?_
   refine W_region [26, 27] rfl (Ops_step (R_move rfl) rfl rfl (Ops_step (R_neq rfl rfl) rfl rfl ?_))
   refine Ops_nil ?_
   refine then_n (k16 _ _ ?_)
   clear k16 K16
   refine W_if rfl (fun dl => ?_) (fun dl => ?_)
   ·
    replace h := h.1 dl
    refine W_seq_k fun K18 k18 => ?_
    refine W_region [28, 2] rfl (Ops_step (R_move rfl) rfl rfl (Ops_step (R_assign rfl) rfl rfl ?_))
    refine Ops_nil ?_
    refine then_n (k18 _ _ ?_)
    clear k18 K18
    refine W_keepB [2] fun B_ b_ => ?_
    simp only [e_, Nat.reduceAdd, Nat.reduceBEq] at b_
    subst b_
    refine W_ret ?_
    refine then_ret ?_
    clear k12 K12
    refine ⟨_, ⟨_, _, rfl, rfl, rfl⟩, ?_⟩
    exact ⟨gr, z0, ao, ap, ak, bf, bg, bh, bi, bj, bl, _, _, rfl, hI, aa, bd, ac, ab, bp, ad, bq, ae, br, af, h⟩
   ·
    replace h := h.2 dl
    refine W_skip ?_
    refine then_n (k12 _ _ ?_)
    clear k12 K12
    refine W_seq_k fun K20 k20 => ?_
    refine W_drawF [29, 30, 31, 32, 33, 34, 35, 36, 37, 38, 39, 5] [(0, true), (1, true), (2, true), (3, true), (4, true), (5, true), (6, true), (7, true), (8, true), (9, true), (10, false), (11, true)] TJtI.hm rfl (by kernel_rfl) fun iy jp ct cu => ?_
    replace hI := hI.fr0 cu
    replace aa := aa.fr0 cu
    replace ab := ab.fr0 cu
    clear cu
    refine HSp (R_move rfl) rfl rfl (HSp (R_nilCheck rfl) rfl rfl (HSp (R_fieldAddr fo73_2 rfl) rfl rfl ?_))
    refine HS_loadB (v := vi z0.Gen_) ag3 rfl aa.blk rfl rfl rfl ?_
    have fm := h.1
    replace h := h.2
    refine HSp (R_add rfl rfl (wI fm.1 fm.2)) rfl rfl (HSp (R_move rfl) rfl rfl (HSp (R_nilCheck rfl) rfl rfl (HSp (R_fieldAddr fo73_0 rfl) rfl rfl ?_)))
    refine HS_loadB (v := .slice ao z0.L_.length ap) ag36 rfl aa.blk rfl rfl rfl ?_
    refine HSp (R_len Try.underlying36 rfl rfl) rfl rfl ?_
    refine HS_call [] _ rfl (by rw [ct]; kernel_rfl) (C_func bd61 rfl) rfl rfl ?_
    refine (sealskinref06_Head_ok (x0 := (z0.Gen_ + 1)) (x1 := (z0.L_.length : Int)) hI.st (hg.up hI.le)  h).mono ?_
    rintro _ jq ⟨gu, gv, gw, jr, gk, rfl, fo, ce, h⟩
    refine Exists.elim (hI.call fo (by simp)) fun dm ey => ?_
    have gx := hI.size
    replace hI := ey.1
    have cf := ey.2.1
    have gy := ey.2.2
    clear ey
    replace ac := ac.up cf.hh
    replace aa := aa.up cf (by simp)
    replace ab := ab.up cf (by simp)
    replace ad := ad.up cf.hh
    replace ae := ae.up cf.hh
    replace af := af.up cf.hh
    replace ce := OwnS.backS ce gx (Le.refl _)
    clear fo cf gy
    refine ⟨_, rfl, trivial, ?_⟩
    refine HSp (R_assign rfl) rfl rfl ?_
    refine HS_nil ?_
    clear ct
    refine then_n (k20 _ _ ?_)
    clear k20 K20
    refine W_keepB [0, 3, 5] fun B_ b_ => ?_
    simp only [e_, Nat.reduceAdd, Nat.reduceBEq] at b_
    subst b_
    refine ex_ h fun iz dn h => ?_
    refine W_seq_join [0, 3] [5] (fun vals_ w2 => ∃ (bt : List UInt8) (dp : Option Addr) (dq : Nat) (L H : Gh), vals_ = [.slice dp bt.length dq] ∧ iz bt ∧ Inv [d0, d1] G w L H w2 ∧ Le dm L ∧ Le gk H ∧ OwnS w.heap.size 5 Gh.no H w2 dp dq bt ∧ Tok H w2 d0 73 ([.slice ao z0.L_.length ap, .pointer (some ⟨d1, 0, none⟩), vi z0.Gen_, vi z0.File_]) ∧ Tok H w2 d1 81 ([.slice bf ak.F_.e0_.length bg, .slice bh ak.F_.e1_.length bi, .slice bj ak.F_.e2_.length bl, vi ak.Room_, .bool ak.Off_, vi ak.Fuse_]) ∧ True) (fun B_ b_ => ?_) (fun B_ b_ => ?_)
    ·
     simp only [e_, Nat.reduceAdd, Nat.reduceBEq] at b_
     subst b_
     clear dn
     have ar := Le.refl dm
     have an := Le.refl gk
     refine W_seq_k fun K26 k26 => ?_
     refine W_region [40, 41, 42, 43, 44, 45] rfl (Ops_step (R_move rfl) rfl rfl (Ops_step (R_nilCheck rfl) rfl rfl (Ops_step (R_fieldAddr fo73_0 rfl) rfl rfl ?_)))
     refine Ops_step (R_loadB (v := .slice ao z0.L_.length ap) ag36 rfl aa.blk rfl) rfl rfl ?_
     refine Ops_step (R_len Try.underlying36 rfl rfl) rfl rfl (Ops_step (R_move rfl) rfl rfl ?_)
     refine Ops_nil ?_
     refine then_n (k26 _ _ ?_)
     clear k26 K26
     refine W_block ?_
     refine Exists.elim h fun i0 h => Exists.elim h fun i1 h => ?_
     have i9 := h.1
     have fp := h.2
     clear h
     refine W_loopB [0, 3, 43, 44] [5, 45] (fun m vals_ w2 => ∃ (a8 : List UInt8) (ca : Option Addr) (cb : Nat) (a6 : Int) (L H : Gh), vals_ = [.slice ca a8.length cb, vi a6] ∧ i0 m a8 a6 ∧ Inv [d0, d1] G w L H w2 ∧ Le dm L ∧ Le gk H ∧ OwnS w.heap.size 5 Gh.no H w2 ca cb a8 ∧ Tok H w2 d0 73 ([.slice ao z0.L_.length ap, .pointer (some ⟨d1, 0, none⟩), vi z0.Gen_, vi z0.File_]) ∧ Tok H w2 d1 81 ([.slice bf ak.F_.e0_.length bg, .slice bh ak.F_.e1_.length bi, .slice bj ak.F_.e2_.length bl, vi ak.Room_, .bool ak.Off_, vi ak.Fuse_]) ∧ True) i1 _ rfl ⟨gw, gu, gv, 0, _, _, rfl, i9, hI, Le.refl _, Le.refl _, ce, aa, ab, trivial⟩ fun B_ b_ => ?_
     clear i9
     simp only [e_, Nat.reduceAdd, Nat.reduceBEq] at b_
     subst b_
     clear ab
     clear aa
     rintro i2 _ js ⟨a8, ca, cb, a6, jt, gz, rfl, fq, ft, a7, aq, ag, aa, ab, -⟩
     replace hI := ft
     clear ft
     have h := fp i2 a8 a6 fq
     clear fp fq
     replace ac := ac.up aq
     replace ad := ad.up aq
     replace ae := ae.up aq
     replace af := af.up aq
     replace ar := ar.trans a7
     replace an := an.trans aq
     refine W_seq_k fun K28 k28 => ?_
     refine W_region [46] rfl (Ops_step (R_lss rfl rfl) rfl rfl ?_)
     refine Ops_nil ?_
     refine then_n (k28 _ _ ?_)
     clear k28 K28
     refine W_seq_k fun K29 k29 => ?_
     refine W_if rfl (fun dr => ?_) (fun dr => ?_)
     ·
      replace h := h.1 dr
      refine W_skip ?_
      refine then_n (k29 _ _ ?_)
      clear k29 K29
      refine W_seq_k fun K31 k31 => ?_
      refine W_block ?_
      refine W_seq_k fun K32 k32 => ?_
      refine W_region [47, 48, 49, 7, 6, none] rfl (Ops_step (R_move rfl) rfl rfl ?_)
      refine ex_ h fun cg cv h => ?_
      have g6 := (Sl.atN (n := 2) rfl (by decide) ac cv).1
      refine Exists.elim (Sl.atN (n := 2) rfl (by decide) ac cv).2 fun i3 dt => ?_
      have du := dt.1
      have g7 := dt.2
      clear dt
      refine Ops_step (R_indexSl Try.underlying36 sz39 rfl rfl cv.1 cv.lt g6) rfl rfl ?_
      replace du : i3 = [vi cg.Label_, vs cg.Data_] := du
      subst du
      refine Ops_step (R_loadCs (cs := [vi cg.Label_, vs cg.Data_]) ag39 sz39 rfl (fun j_ v_ hv_ => hI.st _ _ (g7 j_ v_ hv_))) rfl rfl ?_
      have gl := hI
      refine Ops_to (R_alloc zr39) rfl rfl ?_
      rintro _ ju ⟨gm, rfl, dv, fu, cc⟩
      replace hI := hI.fr0 cc
      replace aa := aa.fr0 cc
      replace ab := ab.fr0 cc
      replace ag := ag.fr0 cc
      have a9 : Tok gz _ gm 39 ([vi 0, vs (Str.mk [])]) := ⟨fu.to rfl, Out.ge gl.st (Nat.le_of_eq dv.symm)⟩
      have dw : w.heap.size ≤ gm := dv ▸ gl.size
      clear fu dv gl cc
      refine Ops_step (R_assign rfl) rfl rfl ?_
      refine Ops_to0 (R_storeN sz39 rfl rfl rfl a9.blk (Nat.le_of_ble_eq_true rfl) rfl) rfl ?_
      rintro _ jv ⟨fv, cd⟩
      replace hI := hI.tok cd (out1 a9.out) (new1 dw)
      replace aa := aa.fr cd (aa.apart a9 (by decide))
      replace ab := ab.fr cd (ab.apart a9 (by decide))
      replace ag := ag.fr cd (ag.ne a9.blk (by decide))
      replace a9 : Tok gz _ gm 39 ([vi cg.Label_, vs cg.Data_]) := ⟨fv, a9.out⟩
      clear cd fv
      refine Ops_nil ?_
      refine then_n (k32 _ _ ?_)
      clear k32 K32
      refine W_region [50, 51, 52, 53, 54, 5] rfl (Ops_step (R_move rfl) rfl rfl (Ops_step (R_move rfl) rfl rfl (Ops_step (R_loadN ag39 sz39 rfl a9.blk (Nat.le_of_ble_eq_true rfl)) rfl rfl ?_)))
      refine Ops_call (C_func bd62 rfl) rfl rfl ?_
      refine (sealskinref06_Tell_ok (x0 := a6) (x1 := cg) hI.st (hg.up hI.le) rfl h).mono ?_
      have bm := ag.lt
      rintro _ jw ⟨g8, g9, fw, jx, jy, rfl, fx, au, h⟩
      refine Exists.elim (hI.call fx (by simp)) fun ja ez => ?_
      have ia := hI.size
      replace hI := ez.1
      have ba := ez.2.1
      have ib := ez.2.2
      clear ez
      replace ac := ac.up ba.hh
      replace ad := ad.up ba.hh
      replace ae := ae.up ba.hh
      replace af := af.up ba.hh
      replace ar := ar.trans ba.ll
      replace an := an.trans ba.hh
      replace aa := aa.up ba (by simp)
      replace ab := ab.up ba (by simp)
      replace ag := ag.up (Le.refl _) ba (by simp)
      replace a7 := a7.trans ba.ll
      replace aq := aq.trans ba.hh
      have bn : ∀ i ∈ bk g8 g9, i ∉ bk ca cb := sep_new au.off bm
      replace au := OwnS.backS au ia (Le.refl _)
      clear fx ba ib
      refine ⟨_, rfl, ?_⟩
      refine Exists.elim (au.freeze hI) fun jz cz => Exists.elim cz fun j0 cz => ?_
      replace hI := cz.1
      have bc := cz.2.1
      have ic := cz.2.2.1 (Le.no _)
      have jb := au.cap
      replace ac := ac.up bc.hh
      replace ad := ad.up bc.hh
      replace ae := ae.up bc.hh
      replace af := af.up bc.hh
      replace ar := ar.trans bc.ll
      replace an := an.trans bc.hh
      replace aa := aa.up bc (au.old b6)
      replace ab := ab.up bc (au.old b7)
      replace ag := ag.up (Le.refl _) bc (sep_sym bn)
      replace a7 := a7.trans bc.ll
      replace aq := aq.trans bc.hh
      clear cz bc au
      have ie := h.1
      replace h := h.2
      refine Ops_to (X_append (α := UInt8) (xs := a8) (ys := fw) el29 rfl rfl ag (Srcs.sc (Srcs.ofSl Try.underlying29 (ic.up hI.sub) hI.st (by decide))) hI.st ie (by decide) hI.size) rfl rfl ?_
      rintro _ j1 ⟨i4, i5, rfl, ig, cw, gn⟩
      clear gn
      replace hI := hI.tok cw ag.out (ag.new (Nat.le_refl _))
      replace aa := aa.fr cw (ag.old b6)
      replace ab := ab.fr cw (ag.old b7)
      clear cw ag
      refine Ops_step (R_assign rfl) rfl rfl ?_
      refine Ops_nil ?_
      refine block_n ?_
      refine then_n (k31 _ _ ?_)
      clear k31 K31
      refine W_keepB [0, 3, 5, 43, 44, 45] fun B_ b_ => ?_
      simp only [e_, Nat.reduceAdd, Nat.reduceBEq] at b_
      subst b_
      refine W_region [55, 45] rfl ?_
      have fy := h.1
      replace h := h.2
      refine Ops_step (R_add rfl rfl (wI fy.1 fy.2)) rfl rfl (Ops_step (R_move rfl) rfl rfl ?_)
      refine Ops_nil ?_
      refine then_n ?_
      exact h.elim fun m_ h => ⟨m_, _, h.1, rfl, ⟨(a8 ++ fw), i4, i5, (a6 + 1), _, _, rfl, h.2, hI, a7, aq, ig, aa, ab, trivial⟩, ⟨rfl, rfl, rfl, rfl, trivial⟩⟩
     ·
      replace h := h.2 dr
      refine W_exit ?_
      refine then_exit ?_
      clear k29 K29
      refine then_exit ?_
      refine block_exit ?_
      refine then_n ?_
      exact ⟨_, rfl, ⟨a8, ca, cb, _, _, rfl, h, hI, ar, an, ag, aa, ab, trivial⟩, ⟨rfl, rfl, trivial⟩⟩
    ·
     simp only [e_, Nat.reduceAdd, Nat.reduceBEq] at b_
     subst b_
     clear h
     clear ab
     clear aa
     rintro _ j2 ⟨bt, dp, dq, j3, j4, rfl, f0, f8, ar, an, bo, aa, ab, -⟩
     replace hI := f8
     clear f8
     have h := dn bt f0
     clear dn f0
     replace ac := ac.up an
     replace ad := ad.up an
     replace ae := ae.up an
     replace af := af.up an
     refine W_seq_k fun K42 k42 => ?_
     refine W_seq_k fun K43 k43 => ?_
     refine W_region [56, 57, 58, 59, 60, 61, 62, 8] rfl (Ops_step (R_move rfl) rfl rfl (Ops_step (R_nilCheck rfl) rfl rfl (Ops_step (R_fieldAddr fo73_1 rfl) rfl rfl ?_)))
     refine Ops_step (R_loadB (v := .pointer (some ⟨d1, 0, none⟩)) ag64 rfl aa.blk rfl) rfl rfl ?_
     refine Ops_step (R_move rfl) rfl rfl (Ops_step (R_move rfl) rfl rfl ?_)
     refine Exists.elim (bo.freeze hI) fun j5 c5 => Exists.elim c5 fun j6 c5 => ?_
     replace hI := c5.1
     have ci := c5.2.1
     have ii := c5.2.2.1 (Le.no _)
     have ij := bo.cap
     replace ac := ac.up ci.hh
     replace ad := ad.up ci.hh
     replace ae := ae.up ci.hh
     replace af := af.up ci.hh
     replace aa := aa.up ci (bo.old b6)
     replace ab := ab.up ci (bo.old b7)
     clear c5 ci bo
     refine Ops_call (C_func bd27 rfl) rfl rfl ?_
     refine (sealskinref05_Disk_Append_ok (x1 := b8) (x2 := bt) (z0 := ak) hI.st (hg.up hI.le) ab bp ad bq ae br af ij (ii.up hI.sub) h).mono ?_
     rintro _ j7 ⟨ik, dx, dy, dz, d5, d6, d7, d8, j8, il, rfl, f9, al, bu, av, bv, aw, bw, ax, h⟩
     refine Exists.elim (hI.call f9 (mem1 (by simp))) fun jc e5 => ?_
     have jd := hI.size
     replace hI := e5.1
     have c6 := e5.2.1
     have im := e5.2.2
     clear e5
     replace ac := ac.up c6.hh
     replace ad := ad.up c6.hh
     replace ae := ae.up c6.hh
     replace af := af.up c6.hh
     replace aa := aa.up c6 (aa.apart ab (by decide))
     clear ab
     clear f9 c6 im
     refine ⟨_, rfl, ?_⟩
     refine Ops_step (R_assign rfl) rfl rfl ?_
     refine Ops_nil ?_
     refine then_n (k43 _ _ ?_)
     clear k43 K43
     refine W_keepB [0, 3, 8] fun B_ b_ => ?_
     simp only [e_, Nat.reduceAdd, Nat.reduceBEq] at b_
     subst b_
     refine W_seq_k fun K47 k47 => ?_
     refine W_region [63, 64] rfl (Ops_step (R_move rfl) rfl rfl (Ops_step (R_neq rfl rfl) rfl rfl ?_))
     refine Ops_nil ?_
     refine then_n (k47 _ _ ?_)
     clear k47 K47
     refine W_if rfl (fun d9 => ?_) (fun d9 => ?_)
     ·
      replace h := h.1 d9
      refine W_seq_k fun K49 k49 => ?_
      refine W_region [65, 2] rfl (Ops_step (R_move rfl) rfl rfl (Ops_step (R_assign rfl) rfl rfl ?_))
      refine Ops_nil ?_
      refine then_n (k49 _ _ ?_)
      clear k49 K49
      refine W_keepB [2] fun B_ b_ => ?_
      simp only [e_, Nat.reduceAdd, Nat.reduceBEq] at b_
      subst b_
      refine W_ret ?_
      refine then_ret ?_
      clear k42 K42
      refine ⟨_, ⟨_, _, rfl, rfl, rfl⟩, ?_⟩
      exact ⟨ik, z0, ao, ap, dx, dy, dz, d5, d6, d7, d8, _, _, rfl, hI, aa, bd, ac, al, bu, av, bv, aw, bw, ax, h⟩
     ·
      replace h := h.2 d9
      refine W_skip ?_
      refine then_n (k42 _ _ ?_)
      clear k42 K42
      refine W_seq_k fun K51 k51 => ?_
      refine W_region [66, 67, 68, 69, 70, 71, 72, none] rfl (Ops_step (R_move rfl) rfl rfl (Ops_step (R_nilCheck rfl) rfl rfl (Ops_step (R_fieldAddr fo73_2 rfl) rfl rfl ?_)))
      refine Ops_step (R_loadB (v := vi z0.Gen_) ag3 rfl aa.blk rfl) rfl rfl ?_
      have ga := h.1
      replace h := h.2
      refine Ops_step (R_add rfl rfl (wI ga.1 ga.2)) rfl rfl (Ops_step (R_nilCheck rfl) rfl rfl (Ops_step (R_fieldAddr fo73_2 rfl) rfl rfl ?_))
      refine Ops_to0 (R_store sz3 rfl rfl aa.blk (by show 2 < 4; decide) rfl) rfl ?_
      rintro _ j9 ⟨gb, ea⟩
      replace hI := hI.tok ea (out1 aa.out) (mem1 (by simp))
      replace al := al.fr ea (al.apart aa (by decide))
      replace aa : Tok il _ d0 73 ([.slice ao z0.L_.length ap, .pointer (some ⟨d1, 0, none⟩), vi (z0.Gen_ + 1), vi z0.File_]) := ⟨gb, aa.out⟩
      clear ea gb
      refine Ops_nil ?_
      refine then_n (k51 _ _ ?_)
      clear k51 K51
      refine W_keepB [0, 3] fun B_ b_ => ?_
      simp only [e_, Nat.reduceAdd, Nat.reduceBEq] at b_
      subst b_
      refine W_seq_k fun K55 k55 => ?_
      refine W_region [73, 74, 75, 76, none] rfl (Ops_step (R_move rfl) rfl rfl (Ops_step (R_move rfl) rfl rfl (Ops_step (R_nilCheck rfl) rfl rfl (Ops_step (R_fieldAddr fo73_3 rfl) rfl rfl ?_))))
      refine Ops_to0 (R_store sz3 rfl rfl aa.blk (by show 3 < 4; decide) rfl) rfl ?_
      rintro _ ka ⟨gc, eb⟩
      replace hI := hI.tok eb (out1 aa.out) (mem1 (by simp))
      replace al := al.fr eb (al.apart aa (by decide))
      replace aa : Tok il _ d0 73 ([.slice ao z0.L_.length ap, .pointer (some ⟨d1, 0, none⟩), vi (z0.Gen_ + 1), vi b8]) := ⟨gc, aa.out⟩
      clear eb gc
      refine Ops_nil ?_
      refine then_n (k55 _ _ ?_)
      clear k55 K55
      refine W_seq_k fun K57 k57 => ?_
      refine W_seq_k fun K58 k58 => ?_
      refine W_region [77, 78, 79, 80, 81, 9] rfl (Ops_step (R_move rfl) rfl rfl (Ops_step (R_nilCheck rfl) rfl rfl (Ops_step (R_fieldAddr fo73_1 rfl) rfl rfl ?_)))
      refine Ops_step (R_loadB (v := .pointer (some ⟨d1, 0, none⟩)) ag64 rfl aa.blk rfl) rfl rfl ?_
      refine Ops_call (C_func bd60 rfl) rfl rfl ?_
      refine (sealskinref05_Disk_Wipe_ok (x1 := 0) (z0 := dx) hI.st (hg.up hI.le) al bu av bv aw bw ax h).mono ?_
      rintro _ kb ⟨io, ec, ee, eg, eh, ei, ej, ek, kc, ke, rfl, gf, am, bx, ah, bz, ai, b4, aj, h⟩
      refine Exists.elim (hI.call gf (mem1 (by simp))) fun je e8 => ?_
      have jf := hI.size
      replace hI := e8.1
      have c7 := e8.2.1
      have ip := e8.2.2
      clear e8
      replace ac := ac.up c7.hh
      replace aa := aa.up c7 (aa.apart al (by decide))
      replace av := av.up c7.hh
      replace aw := aw.up c7.hh
      replace ax := ax.up c7.hh
      clear al
      clear gf c7 ip
      refine ⟨_, rfl, ?_⟩
      refine Ops_step (R_assign rfl) rfl rfl ?_
      refine Ops_nil ?_
      refine then_n (k58 _ _ ?_)
      clear k58 K58
      refine W_keepB [0, 9] fun B_ b_ => ?_
      simp only [e_, Nat.reduceAdd, Nat.reduceBEq] at b_
      subst b_
      refine W_seq_k fun K61 k61 => ?_
      refine W_region [82, 83] rfl (Ops_step (R_move rfl) rfl rfl (Ops_step (R_neq rfl rfl) rfl rfl ?_))
      refine Ops_nil ?_
      refine then_n (k61 _ _ ?_)
      clear k61 K61
      refine W_if rfl (fun en => ?_) (fun en => ?_)
      ·
       replace h := h.1 en
       refine W_seq_k fun K63 k63 => ?_
       refine W_region [84, 2] rfl (Ops_step (R_move rfl) rfl rfl (Ops_step (R_assign rfl) rfl rfl ?_))
       refine Ops_nil ?_
       refine then_n (k63 _ _ ?_)
       clear k63 K63
       refine W_ret ?_
       refine then_ret ?_
       clear k57 K57
       refine ⟨_, ⟨_, _, rfl, rfl, rfl⟩, ?_⟩
       exact ⟨io, (sealskinref06_Journal.mk z0.L_ (z0.Gen_ + 1) b8), ao, ap, ec, ee, eg, eh, ei, ej, ek, _, _, rfl, hI, aa, bd, ac, am, bx, ah, bz, ai, b4, aj, h⟩
      ·
       replace h := h.2 en
       refine W_skip ?_
       refine then_n (k57 _ _ ?_)
       clear k57 K57
       refine W_seq_k fun K64 k64 => ?_
       refine W_drawF [85, 86, 87, 88, 89, 90, 91, 92, 93, 94, 95, 96, 97, 98, 99, 2] [(0, true), (1, true), (2, true), (3, true), (4, true), (5, true), (6, true), (7, true), (8, true), (9, true), (10, true), (11, true), (12, true), (13, false), (14, false), (15, true)] TJtI.hm rfl (by kernel_rfl) fun i6 kf b9 cx => ?_
       replace hI := hI.fr0 cx
       replace aa := aa.fr0 cx
       replace am := am.fr0 cx
       clear cx
       refine HSp (R_move rfl) rfl rfl (HSp (R_nilCheck rfl) rfl rfl (HSp (R_fieldAddr fo73_1 rfl) rfl rfl ?_))
       refine HS_loadB (v := .pointer (some ⟨d1, 0, none⟩)) ag64 rfl aa.blk rfl rfl rfl ?_
       refine HSp (R_move rfl) rfl rfl (HSp (R_nilCheck rfl) rfl rfl (HSp (R_fieldAddr fo73_2 rfl) rfl rfl ?_))
       refine HS_loadB (v := vi (z0.Gen_ + 1)) ag3 rfl aa.blk rfl rfl rfl ?_
       refine HSp (R_move rfl) rfl rfl (HSp (R_nilCheck rfl) rfl rfl (HSp (R_fieldAddr fo73_0 rfl) rfl rfl ?_))
       refine HS_loadB (v := .slice ao z0.L_.length ap) ag36 rfl aa.blk rfl rfl rfl ?_
       refine HSp (R_len Try.underlying36 rfl rfl) rfl rfl ?_
       refine HS_call [3] _ rfl (by rw [b9]; kernel_rfl) (C_func bd61 rfl) rfl rfl ?_
       refine (sealskinref06_Head_ok (x0 := (z0.Gen_ + 1)) (x1 := (z0.L_.length : Int)) hI.st (hg.up hI.le)  h).mono ?_
       rintro _ kg ⟨jg, jh, iq, kh, ki, rfl, gg, ay, h⟩
       refine Exists.elim (hI.call gg (by simp)) fun ji e9 => ?_
       have ir := hI.size
       replace hI := e9.1
       have cj := e9.2.1
       have it := e9.2.2
       clear e9
       replace ac := ac.up cj.hh
       replace aa := aa.up cj (by simp)
       replace am := am.up cj (by simp)
       replace ah := ah.up cj.hh
       replace ai := ai.up cj.hh
       replace aj := aj.up cj.hh
       replace ay := OwnS.backS ay ir (Le.refl _)
       clear gg cj it
       refine ⟨_, rfl, ⟨(aa.blk.at_ rfl), trivial⟩, ?_⟩
       refine Exists.elim (ay.freeze hI) fun kj c8 => Exists.elim c8 fun kk c8 => ?_
       replace hI := c8.1
       have ck := c8.2.1
       have iu := c8.2.2.1 (Le.no _)
       have iv := ay.cap
       replace ac := ac.up ck.hh
       replace aa := aa.up ck (ay.old b6)
       replace am := am.up ck (ay.old b7)
       replace ah := ah.up ck.hh
       replace ai := ai.up ck.hh
       replace aj := aj.up ck.hh
       clear c8 ck ay
       refine HS_call [] _ rfl (by rw [b9]; kernel_rfl) (C_func bd27 rfl) rfl rfl ?_
       refine (sealskinref05_Disk_Append_ok (x1 := 0) (x2 := iq) (z0 := ec) hI.st (hg.up hI.le) am bx ah bz ai b4 aj iv (iu.up hI.sub) h).mono ?_
       rintro _ kl ⟨iw, go, eo, ep, eq, et, eu, ew, km, ko, rfl, gh, fa, c9, da, db, dc, dd, de, h⟩
       refine Exists.elim (hI.call gh (mem1 (by simp))) fun jj fb => ?_
       have jk := hI.size
       replace hI := fb.1
       have df := fb.2.1
       have ix := fb.2.2
       clear fb
       replace ac := ac.up df.hh
       replace aa := aa.up df (aa.apart am (by decide))
       replace ah := ah.up df.hh
       replace ai := ai.up df.hh
       replace aj := aj.up df.hh
       clear am
       clear gh df ix
       refine ⟨_, rfl, trivial, ?_⟩
       refine HSp (R_assign rfl) rfl rfl ?_
       refine HS_nil ?_
       clear b9
       refine then_n (k64 _ _ ?_)
       clear k64 K64
       refine W_keepB [2] fun B_ b_ => ?_
       simp only [e_, Nat.reduceAdd, Nat.reduceBEq] at b_
       subst b_
       refine W_ret ?_
       refine ⟨_, ⟨_, _, rfl, rfl, rfl⟩, ?_⟩
       exact ⟨iw, (sealskinref06_Journal.mk z0.L_ (z0.Gen_ + 1) b8), ao, ap, go, eo, ep, eq, et, eu, ew, _, _, rfl, hI, aa, bd, ac, fa, c9, da, db, dc, dd, de, h⟩

end Go.Proofs.Ytkmljjhjojolcaa

