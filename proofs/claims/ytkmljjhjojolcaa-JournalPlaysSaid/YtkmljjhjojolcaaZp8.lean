/- What is shown of the program on the way to the law. -/
import Derived.Test.YtkmljjhjojolcaaZp3
import Derived.Test.YtkmljjhjojolcaaZp4
import Derived.Test.YtkmljjhjojolcaaZp5
import Derived.Test.YtkmljjhjojolcaaProg
set_option linter.unusedVariables false
set_option linter.unusedSimpArgs false
set_option maxHeartbeats 4000000
namespace Go.Proofs.Ytkmljjhjojolcaa
open Go Go.Sx Go.Lx
namespace TJtB
theorem hm : Try.prog.follows .mixedOrders = true := by kernel_rfl
theorem ag26 : aggB Try.prog 26 = some false := by kernel_rfl
theorem ag29 : aggB Try.prog 29 = some false := by kernel_rfl
theorem ag3 : aggB Try.prog 3 = some false := by kernel_rfl
theorem ag32 : aggB Try.prog 32 = some false := by kernel_rfl
theorem ag41 : aggB Try.prog 41 = some false := by kernel_rfl
theorem ag42 : aggB Try.prog 42 = some false := by kernel_rfl
theorem ag85 : aggB Try.prog 85 = some true := by kernel_rfl
theorem bd46 : bodied Try.prog 46 = true := by kernel_rfl
theorem bd47 : bodied Try.prog 47 = true := by kernel_rfl
theorem bd66 : bodied Try.prog 66 = true := by kernel_rfl
theorem bd67 : bodied Try.prog 67 = true := by kernel_rfl
theorem bd68 : bodied Try.prog 68 = true := by kernel_rfl
theorem bd69 : bodied Try.prog 69 = true := by kernel_rfl
theorem bd70 : bodied Try.prog 70 = true := by kernel_rfl
theorem bd80 : bodied Try.prog 80 = true := by kernel_rfl
theorem bd81 : bodied Try.prog 81 = true := by kernel_rfl
theorem bd82 : bodied Try.prog 82 = true := by kernel_rfl
theorem bd83 : bodied Try.prog 83 = true := by kernel_rfl
theorem bd84 : bodied Try.prog 84 = true := by kernel_rfl
theorem bd85 : bodied Try.prog 85 = true := by kernel_rfl
theorem el41 : Elem Try.prog 41 85 2 32 := Elem.of (by kernel_rfl)
theorem el67 : Elem Try.prog 67 29 1 24 := Elem.of (by kernel_rfl)
theorem fo118_1 : offB Try.prog 118 1 = some 1 := by kernel_rfl
theorem fo118_2 : offB Try.prog 118 2 = some 2 := by kernel_rfl
theorem fo120_0 : offB Try.prog 120 0 = some 0 := by kernel_rfl
theorem fo44_0 : offB Try.prog 44 0 = some 0 := by kernel_rfl
theorem fo44_1 : offB Try.prog 44 1 = some 1 := by kernel_rfl
theorem fo46_2 : offB Try.prog 46 2 = some 3 := by kernel_rfl
theorem fo85_0 : offB Try.prog 85 0 = some 0 := by kernel_rfl
theorem fo85_1 : offB Try.prog 85 1 = some 1 := by kernel_rfl
theorem pl85 : partPl Try.prog 85 = some [(0, 1), (1, 1)] := by kernel_rfl
theorem sz29 : sz Try.prog 29 = some 1 := by kernel_rfl
theorem sz3 : sz Try.prog 3 = some 1 := by kernel_rfl
theorem sz32 : sz Try.prog 32 = some 1 := by kernel_rfl
theorem sz41 : sz Try.prog 41 = some 1 := by kernel_rfl
theorem sz5 : sz Try.prog 5 = some 1 := by kernel_rfl
theorem sz85 : sz Try.prog 85 = some 2 := by kernel_rfl
theorem zr29 : zr Try.prog 29 = some ([.slice none 0 0]) := by kernel_rfl
theorem zr85 : zr Try.prog 85 = some ([.int .i64 0] ++ [.slice none 0 0]) := by kernel_rfl
theorem zv3 : zv Try.prog 3 = some (vi 0) := by kernel_rfl
end TJtB
open TJtB
theorem octet_All_ok {G : Gh} {w : World} (hS : St G w) (hg : GL G) {A0 : Option Addr} {c0 : Nat} {x0 : List UInt8} (hc0 : x0.length ≤ c0) (hs0 : Sl G A0 x0) {Q : (List (List UInt8)) → Int → Prop} (h : octet_All x0 Q) : Calls Try.prog 66 #[.slice A0 x0.length c0] w fun e w2 => ∃ (A0 : Option Addr) (c0 : Nat) (r0 : List (List UInt8)) (r1 : Int) (L H : Gh), e = .returned (.tuple #[.slice A0 r0.length c0, vi r1]) ∧ Inv [] G w L H w2 ∧ OwnS w.heap.size 29 L H w2 A0 c0 r0 ∧ Q r0 r1 := by
 unfold octet_All at h
 have hI := Inv.start (M := []) hS
 refine calls_W 28 Try.func66 rfl Try.ntmps66 rfl [.tmp 2, .tmp 3] rfl ?_
 refine W_seq_k fun K1 k1 => ?_
 refine W_region [2, 3] rfl (Ops_step (R_assign rfl) rfl rfl (Ops_step (R_assign rfl) rfl rfl ?_))
 refine Ops_nil ?_
 refine then_n (k1 _ _ ?_)
 clear k1 K1
 refine W_seq_k fun K2 k2 => ?_
 refine W_region [4] rfl (Ops_step (R_assign rfl) rfl rfl ?_)
 refine Ops_nil ?_
 refine then_n (k2 _ _ ?_)
 clear k2 K2
 refine W_seq_k fun K3 k3 => ?_
 refine W_region [5] rfl (Ops_step (R_assign rfl) rfl rfl ?_)
 refine Ops_nil ?_
 refine then_n (k3 _ _ ?_)
 clear k3 K3
 refine W_block ?_
 refine Exists.elim h fun bw h => Exists.elim h fun bx h => ?_
 have bv := h.1
 have az := h.2
 clear h
 refine W_loopB [0] [4, 5] (fun m vals_ w2 => ∃ (ad : List (List UInt8)) (aj : Option Addr) (ak : Nat) (ae : Int) (L H : Gh), vals_ = [.slice aj ad.length ak, vi ae] ∧ bw m ad ae ∧ Inv [] G w L H w2 ∧ Le Gh.no L ∧ Le G H ∧ OwnS w.heap.size 29 L H w2 aj ak ad ∧ True) bx _ rfl ⟨[], none, 0, 0, _, _, rfl, bv, hI, Le.refl _, Le.refl _, OwnS.nil, trivial⟩ fun B_ b_ => ?_
 clear bv
 simp only [e_, Nat.reduceAdd, Nat.reduceBEq] at b_
 subst b_
 rintro bz _ b7 ⟨ad, aj, ak, ae, b8, b9, rfl, a4, a5, af, ab, aa, -⟩
 replace hI := a5
 clear a5
 have h := az bz ad ae a4
 clear az a4
 replace hs0 := hs0.up ab
 refine W_block ?_
 refine W_seq_k fun K5 k5 => ?_
 refine W_region [10, 11, 12, 13, 9, 14, 15, 16, 6, 7, 8] rfl (Ops_step (R_move rfl) rfl rfl (Ops_step (R_move rfl) rfl rfl ?_))
 have a6 := h.1
 replace h := h.2
 have a7 := h.1
 replace h := h.2
 refine Exists.elim (cut_ex (n := 1) (l := ae) (h := (x0.length : Int)) hs0 rfl (by decide) hc0 a6 a7 (Int.le_refl _)) fun ca ax => Exists.elim ax fun cb ax => ?_
 have a8 := ax.1
 have bl := ax.2.1
 have bm := ax.2.2
 clear ax
 refine Ops_step (X_slice (xs := x0) Try.underlying29 sz5 rfl a8 hc0 rfl rfl a6 a7 (Int.le_refl _)) rfl rfl ?_
 clear a8
 refine Ops_call (C_func bd80 rfl) rfl rfl ?_
 refine (octet_Open_ok (x0 := (cut x0 ae (x0.length : Int))) hI.st (hg.up hI.le) bl bm h).mono ?_
 rintro _ cc ⟨au, av, al, a9, bn, cd, ce, rfl, ba, ac, h⟩
 refine Exists.elim (hI.call ba (by simp)) fun b4 bj => ?_
 have bo := hI.size
 replace hI := bj.1
 have ay := bj.2.1
 have bp := bj.2.2
 clear bj
 replace hs0 := hs0.up ay.hh
 replace aa := aa.up ay.ll ay (by simp)
 replace af := af.trans ay.ll
 replace ab := ab.trans ay.hh
 replace ac := OwnS.backS ac bo (Le.refl _)
 clear ba ay bp
 refine ⟨_, rfl, ?_⟩
 refine Exists.elim (ac.freeze hI) fun bq ah => Exists.elim ah fun br ah => ?_
 replace hI := ah.1
 have ai := ah.2.1
 have bc := ah.2.2.1 (Le.no _)
 have bd := ac.cap
 replace hs0 := hs0.up ai.hh
 replace aa := aa.up ai.ll ai (aa.sep ac (by decide))
 replace af := af.trans ai.ll
 replace ab := ab.trans ai.hh
 clear ah ai ac
 refine Ops_step (R_move rfl) rfl rfl ?_
 refine Ops_step (R_extract (v := .slice au al.length av) rfl rfl) rfl rfl ?_
 refine Ops_step (R_extract (v := vi a9) rfl rfl) rfl rfl ?_
 refine Ops_step (R_extract (v := vi bn) rfl rfl) rfl rfl ?_
 refine Ops_step (R_assign rfl) rfl rfl (Ops_step (R_assign rfl) rfl rfl (Ops_step (R_assign rfl) rfl rfl ?_))
 refine Ops_nil ?_
 refine then_n (k5 _ _ ?_)
 clear k5 K5
 refine W_keepB [0, 4, 5, 6, 7, 8] fun B_ b_ => ?_
 simp only [e_, Nat.reduceAdd, Nat.reduceBEq] at b_
 subst b_
 refine W_seq_k fun K12 k12 => ?_
 refine W_seq_k fun K13 k13 => ?_
 refine W_region [17, 18] rfl (Ops_step (R_move rfl) rfl rfl (Ops_step (R_neq rfl rfl) rfl rfl ?_))
 refine Ops_nil ?_
 refine then_n (k13 _ _ ?_)
 clear k13 K13
 refine W_if rfl (fun am => ?_) (fun am => ?_)
 ·
  replace h := h.1 am
  refine W_seq_k fun K15 k15 => ?_
  refine W_region [19, 20, 2, 3] rfl (Ops_step (R_move rfl) rfl rfl (Ops_step (R_move rfl) rfl rfl (Ops_step (R_assign rfl) rfl rfl (Ops_step (R_assign rfl) rfl rfl ?_))))
  refine Ops_nil ?_
  refine then_n (k15 _ _ ?_)
  clear k15 K15
  refine W_keepB [2, 3] fun B_ b_ => ?_
  simp only [e_, Nat.reduceAdd, Nat.reduceBEq] at b_
  subst b_
  refine W_ret ?_
  refine then_ret ?_
  clear k12 K12
  refine block_ret ?_
  refine then_ret ?_
  refine block_ret ?_
  refine ⟨_, ⟨_, _, rfl, rfl, ⟨_, _, rfl, rfl, rfl⟩⟩, ?_⟩
  exact ⟨aj, ak, ad, ae, _, _, rfl, hI, aa, h⟩
 ·
  replace h := h.2 am
  refine W_skip ?_
  refine then_n (k12 _ _ ?_)
  clear k12 K12
  refine W_region [21, 22, 23, 24, 25, 26, 27, 4, 5] rfl (Ops_step (R_move rfl) rfl rfl (Ops_step (R_move rfl) rfl rfl ?_))
  have ag := aa.lt
  refine Ops_to (R_buildSlice el67 zr29 (by decide) (by decide) rfl rfl) rfl rfl ?_
  rintro _ b5 ⟨be, rfl, bf, ao, an⟩
  have bg : OwnS w.heap.size 29 bq br _ (some ⟨be, 0, none⟩) 1 ([al] : List (List UInt8)) := OwnS.ofBlk (css := [[.slice au al.length av]]) hI.st bf ao (.cons ⟨au, av, rfl, bd, bc⟩ .nil) rfl (by have := hI.size; omega) (by show 1 ≤ maxLen; decide)
  replace hI := hI.fr0 an
  replace aa := aa.fr0 an
  clear an ao
  have ap : ∀ i ∈ bk (some ⟨be, 0, none⟩) 1, i ∉ bk aj ak := sep_new (fun i_ hi_ => by have := (bk_of hi_).1; simp only [blkOf, List.mem_singleton] at this; omega) ag
  have bh := h.1
  replace h := h.2
  refine Ops_to (X_append (α := List UInt8) (xs := ad) (ys := ([al] : List (List UInt8))) el67 rfl rfl aa (Srcs.ofOwn Try.underlying67 bg (by decide)) hI.st bh (by decide) hI.size) rfl rfl ?_
  rintro _ b6 ⟨bt, bu, rfl, bi, aq, aw⟩
  clear aw
  replace hI := hI.tok aq aa.out (aa.new (Nat.le_refl _))
  clear aq aa
  refine Ops_step (R_move rfl) rfl rfl (Ops_step (R_move rfl) rfl rfl ?_)
  have ar := h.1
  replace h := h.2
  refine Ops_step (R_add rfl rfl (wI ar.1 ar.2)) rfl rfl (Ops_step (R_assign rfl) rfl rfl (Ops_step (R_assign rfl) rfl rfl ?_))
  refine Ops_nil ?_
  refine block_n ?_
  refine then_n ?_
  exact h.elim fun m_ h => ⟨m_, _, h.1, rfl, ⟨(ad ++ ([al] : List (List UInt8))), bt, bu, (ae + a9), _, _, rfl, h.2, hI, af, ab, bi, trivial⟩, ⟨rfl, trivial⟩⟩

theorem octet_Reader_Within_ok {G : Gh} {w : World} (hS : St G w) (hg : GL G) {d0 : Nat} {z0 : octet_Reader} {ay : Option Addr} {az : Nat} (ak : Tok G w d0 120 ([.slice ay z0.source_.b_.length az, vi z0.source_.at_, vi z0.source_.err_, .bool z0.source_.made_])) (ax : z0.source_.b_.length ≤ az) (ad : Sl G ay z0.source_.b_) {x1 : Int} {x2 : Int} {Q : Int → octet_Reader → Prop} (h : octet_Reader_Within z0 x1 x2 Q) : Calls Try.prog 68 #[.pointer (some ⟨d0, 0, none⟩), vi x1, vi x2] w fun e w2 => ∃ (r0 : Int) (y0 : octet_Reader) (bd : Option Addr) (be : Nat) (L H : Gh), e = .returned (vi r0) ∧ Inv [d0] G w L H w2 ∧ Tok H w2 d0 120 ([.slice bd y0.source_.b_.length be, vi y0.source_.at_, vi y0.source_.err_, .bool y0.source_.made_]) ∧ y0.source_.b_.length ≤ be ∧ Sl H bd y0.source_.b_ ∧ Q r0 y0 := by
 unfold octet_Reader_Within at h
 have hI := Inv.start (M := [d0]) hS
 refine calls_W 57 Try.func68 rfl Try.ntmps68 rfl [.tmp 6] rfl ?_
 have b8 := ak.blk.lt
 refine W_seq_k fun K1 k1 => ?_
 refine W_region [6] rfl (Ops_step (R_assign rfl) rfl rfl ?_)
 refine Ops_nil ?_
 refine then_n (k1 _ _ ?_)
 clear k1 K1
 refine W_seq_k fun K2 k2 => ?_
 refine ex_ h fun ce bp h => ?_
 refine W_seq_join [0, 1, 2] [17] (fun vals_ w2 => ∃ (a4 : Bool) (L H : Gh), vals_ = [.bool a4] ∧ ce a4 ∧ Inv [d0] G w L H w2 ∧ Le Gh.no L ∧ Le G H ∧ Tok H w2 d0 120 ([.slice ay z0.source_.b_.length az, vi z0.source_.at_, vi z0.source_.err_, .bool z0.source_.made_]) ∧ True) (fun B_ b_ => ?_) (fun B_ b_ => ?_)
 ·
  simp only [e_, Nat.reduceAdd, Nat.reduceBEq] at b_
  subst b_
  clear bp
  have av := Le.refl Gh.no
  have ao := Le.refl G
  refine W_region [8, 9, 10, 11, 12, 13, 14, 15, 16, 17] rfl (Ops_step (R_move rfl) rfl rfl ?_)
  refine Ops_call (C_func bd81 rfl) rfl rfl ?_
  refine (octet_Reader_dead_ok (z0 := z0) hI.st (hg.up hI.le) ak ax ad h).mono ?_
  rintro _ ct ⟨cf, cu, cv, rfl, bt, h⟩
  refine Exists.elim (hI.call bt (by simp)) fun cg b5 => ?_
  have ci := hI.size
  replace hI := b5.1
  have bu := b5.2.1
  have b9 := b5.2.2
  clear b5
  replace ad := ad.up bu.hh
  replace ak := ak.up bu (by simp)
  replace av := av.trans bu.ll
  replace ao := ao.trans bu.hh
  clear bt bu b9
  refine ⟨_, rfl, ?_⟩
  refine Ops_step (R_move rfl) rfl rfl ?_
  refine Ops_splitB 10 rfl (fun bq => ?_) (fun bq => ?_)
  ·
   replace h := h.1 bq
   refine Ops_pass rfl rfl (Ops_pass rfl rfl (Ops_pass rfl rfl (Ops_pass rfl rfl (Ops_pass rfl rfl ?_))))
   refine Ops_pass rfl rfl (Ops_step (R_pick_true rfl rfl) rfl rfl ?_)
   refine Ops_nil ?_
   refine then_n ?_
   exact ⟨_, rfl, ⟨true, _, _, rfl, h, hI, av, ao, ak, trivial⟩, ⟨rfl, rfl, rfl, trivial⟩⟩
  ·
   replace h := h.2 bq
   refine Ops_step (R_move rfl) rfl rfl (Ops_step (R_nilCheck rfl) rfl rfl (Ops_step (R_fieldAddr fo120_0 rfl) rfl rfl (Ops_step (R_fieldAddr fo118_2 rfl) rfl rfl ?_)))
   refine Ops_step (R_loadB (v := vi z0.source_.err_) ag32 rfl ak.blk rfl) rfl rfl ?_
   refine Ops_step (R_neq rfl rfl) rfl rfl (Ops_step (R_pick_false rfl rfl) rfl rfl ?_)
   refine Ops_nil ?_
   refine then_n ?_
   exact ⟨_, rfl, ⟨(decide (z0.source_.err_ ≠ 0)), _, _, rfl, h, hI, av, ao, ak, trivial⟩, ⟨rfl, rfl, rfl, trivial⟩⟩
 ·
  simp only [e_, Nat.reduceAdd, Nat.reduceBEq] at b_
  subst b_
  clear h
  clear ak
  rintro _ cw ⟨a4, cx, cy, rfl, bv, bw, av, ao, ak, -⟩
  replace hI := bw
  clear bw
  have h := bp a4 bv
  clear bp bv
  replace ad := ad.up ao
  refine W_cond rfl (fun br => ?_) (fun br => ?_)
  ·
   replace h := h.1 br
   refine W_seq_k fun K7 k7 => ?_
   refine W_region [6] rfl (Ops_step (R_assign rfl) rfl rfl ?_)
   refine Ops_nil ?_
   refine then_n (k7 _ _ ?_)
   clear k7 K7
   refine W_ret ?_
   refine then_ret ?_
   clear k2 K2
   refine ⟨_, ⟨_, _, rfl, rfl, rfl⟩, ?_⟩
   exact ⟨0, z0, ay, az, _, _, rfl, hI, ak, ax, ad, h⟩
  ·
   replace h := h.2 br
   refine W_skip ?_
   refine then_n (k2 _ _ ?_)
   clear k2 K2
   refine W_seq_k fun K8 k8 => ?_
   refine W_region [18, 19, 7] rfl (Ops_step (R_move rfl) rfl rfl ?_)
   refine Ops_call (C_func bd82 rfl) rfl rfl ?_
   refine (octet_Reader_Number_ok (z0 := z0) hI.st (hg.up hI.le) ak ax ad h).mono ?_
   rintro _ cz ⟨bx, ab, ag, ah, c5, b6, rfl, bz, aa, aw, ai, h⟩
   refine Exists.elim (hI.call bz (mem1 (by simp))) fun bc b7 => ?_
   have cj := hI.size
   replace hI := b7.1
   have cd := b7.2.1
   have ca := b7.2.2
   clear b7
   replace ad := ad.up cd.hh
   clear ak
   clear bz cd ca
   refine ⟨_, rfl, ?_⟩
   refine Ops_step (R_assign rfl) rfl rfl ?_
   refine Ops_nil ?_
   refine then_n (k8 _ _ ?_)
   clear k8 K8
   refine ex_ h fun cb a5 h => ?_
   refine W_seq_join [0, 7] [] (fun vals_ w2 => ∃ (ac : octet_Reader) (ae : Option Addr) (af : Nat) (L H : Gh), vals_ = [] ∧ cb ac ∧ Inv [d0] G w L H w2 ∧ Le bc L ∧ Le b6 H ∧ Tok H w2 d0 120 ([.slice ae ac.source_.b_.length af, vi ac.source_.at_, vi ac.source_.err_, .bool ac.source_.made_]) ∧ ac.source_.b_.length ≤ af ∧ Sl H ae ac.source_.b_ ∧ True) (fun B_ b_ => ?_) (fun B_ b_ => ?_)
   ·
    simp only [e_, Nat.reduceAdd, Nat.reduceBEq] at b_
    subst b_
    clear a5
    have al := Le.refl bc
    have am := Le.refl b6
    refine ex_ h fun cc a6 h => ?_
    refine W_seq_join [0, 7] [35] (fun vals_ w2 => ∃ (ar : Bool) (L H : Gh), vals_ = [.bool ar] ∧ cc ar ∧ Inv [d0] G w L H w2 ∧ Le bc L ∧ Le b6 H ∧ Tok H w2 d0 120 ([.slice ag ab.source_.b_.length ah, vi ab.source_.at_, vi ab.source_.err_, .bool ab.source_.made_]) ∧ True) (fun B_ b_ => ?_) (fun B_ b_ => ?_)
    ·
     simp only [e_, Nat.reduceAdd, Nat.reduceBEq] at b_
     subst b_
     clear a6
     have an := Le.refl bc
     have aj := Le.refl b6
     refine W_region [20, 21, 22, 23, 24, 25, 26, 27, 28, 29, 30, 31, 32, 33, 34, 35] rfl (Ops_step (R_move rfl) rfl rfl (Ops_step (R_nilCheck rfl) rfl rfl (Ops_step (R_fieldAddr fo120_0 rfl) rfl rfl (Ops_step (R_fieldAddr fo118_2 rfl) rfl rfl ?_))))
     refine Ops_step (R_loadB (v := vi ab.source_.err_) ag32 rfl aa.blk rfl) rfl rfl ?_
     refine Ops_step (R_eql rfl rfl) rfl rfl (Ops_step (R_move rfl) rfl rfl ?_)
     refine Ops_split 26 rfl (fun a7 => ?_) (fun a7 => ?_)
     ·
      replace h := h.1 a7
      refine Ops_step (R_move rfl) rfl rfl (Ops_step (R_move rfl) rfl rfl (Ops_step (R_lss rfl rfl) rfl rfl (Ops_step (R_move rfl) rfl rfl ?_)))
      refine Ops_split 30 rfl (fun a8 => ?_) (fun a8 => ?_)
      ·
       replace h := h.1 a8
       refine Ops_pass rfl rfl (Ops_pass rfl rfl (Ops_pass rfl rfl (Ops_step (R_pick_true rfl rfl) rfl rfl (Ops_step (R_pick_true rfl rfl) rfl rfl ?_))))
       refine Ops_nil ?_
       refine then_n ?_
       exact ⟨_, rfl, ⟨true, _, _, rfl, h, hI, an, aj, aa, trivial⟩, ⟨rfl, rfl, trivial⟩⟩
      ·
       replace h := h.2 a8
       refine Ops_step (R_move rfl) rfl rfl (Ops_step (R_move rfl) rfl rfl (Ops_step (R_gtr rfl rfl) rfl rfl (Ops_step (R_pick_false rfl rfl) rfl rfl (Ops_step (R_pick_true rfl rfl) rfl rfl ?_))))
       refine Ops_nil ?_
       refine then_n ?_
       exact ⟨_, rfl, ⟨(decide (bx > x2)), _, _, rfl, h, hI, an, aj, aa, trivial⟩, ⟨rfl, rfl, trivial⟩⟩
     ·
      replace h := h.2 a7
      refine Ops_pass rfl rfl (Ops_pass rfl rfl (Ops_pass rfl rfl (Ops_pass rfl rfl (Ops_passU rfl rfl ?_))))
      refine Ops_passU rfl rfl (Ops_passU rfl rfl (Ops_pass rfl rfl (Ops_step (R_pick_false rfl rfl) rfl rfl ?_)))
      refine Ops_nil ?_
      refine then_n ?_
      exact ⟨_, rfl, ⟨false, _, _, rfl, h, hI, an, aj, aa, trivial⟩, ⟨rfl, rfl, trivial⟩⟩
    ·
     simp only [e_, Nat.reduceAdd, Nat.reduceBEq] at b_
     subst b_
     clear h
     clear aa
     rintro _ ck ⟨ar, cl, b4, rfl, bf, bg, an, aj, aa, -⟩
     replace hI := bg
     clear bg
     have h := a6 ar bf
     clear a6 bf
     replace ai := ai.up aj
     replace al := al.trans an
     replace am := am.trans aj
     refine W_cond rfl (fun a9 => ?_) (fun a9 => ?_)
     ·
      replace h := h.1 a9
      refine W_region [36, 37, 38, 39, 40, 41, 42, 43, 44, 45, 46, none, 47, 48, 49, none] rfl (Ops_step (R_move rfl) rfl rfl (Ops_step (R_move rfl) rfl rfl (Ops_step (R_move rfl) rfl rfl (Ops_step (R_nilCheck rfl) rfl rfl ?_))))
      refine Ops_step (R_fieldAddr fo120_0 rfl) rfl rfl (Ops_step (R_fieldAddr fo118_1 rfl) rfl rfl ?_)
      refine Ops_step (R_loadB (v := vi ab.source_.at_) ag3 rfl aa.blk rfl) rfl rfl ?_
      have bh := h.1
      replace h := h.2
      refine Ops_step (R_sub rfl rfl (wI bh.1 bh.2)) rfl rfl (Ops_step (R_nilCheck rfl) rfl rfl (Ops_step (R_fieldAddr fo120_0 rfl) rfl rfl (Ops_step (R_fieldAddr fo118_1 rfl) rfl rfl ?_)))
      refine Ops_to0 (R_store sz3 rfl rfl aa.blk (by show 1 < 4; decide) rfl) rfl ?_
      rintro _ cm ⟨bi, bj⟩
      replace hI := hI.tok bj (out1 aa.out) (mem1 (by simp))
      replace aa : Tok b4 _ d0 120 ([.slice ag ab.source_.b_.length ah, vi (ab.source_.at_ - 8), vi ab.source_.err_, .bool ab.source_.made_]) := ⟨bi, aa.out⟩
      clear bj bi
      refine Ops_step (R_nilCheck rfl) rfl rfl (Ops_step (R_fieldAddr fo120_0 rfl) rfl rfl (Ops_step (R_fieldAddr fo118_2 rfl) rfl rfl ?_))
      refine Ops_to0 (R_store sz32 rfl rfl aa.blk (by show 2 < 4; decide) rfl) rfl ?_
      rintro _ co ⟨bl, bm⟩
      replace hI := hI.tok bm (out1 aa.out) (mem1 (by simp))
      replace aa : Tok b4 _ d0 120 ([.slice ag ab.source_.b_.length ah, vi (ab.source_.at_ - 8), vi 5, .bool ab.source_.made_]) := ⟨bl, aa.out⟩
      clear bm bl
      refine Ops_nil ?_
      refine then_n ?_
      exact ⟨_, rfl, ⟨(octet_Reader.mk (octet_source.mk ab.source_.b_ (ab.source_.at_ - 8) 5 ab.source_.made_)), ag, ah, _, _, rfl, h, hI, al, am, aa, aw, ai, trivial⟩, ⟨rfl, rfl, trivial⟩⟩
     ·
      replace h := h.2 a9
      refine W_skip ?_
      refine then_n ?_
      exact ⟨_, rfl, ⟨ab, ag, ah, _, _, rfl, h, hI, al, am, aa, aw, ai, trivial⟩, ⟨rfl, rfl, trivial⟩⟩
   ·
    simp only [e_, Nat.reduceAdd, Nat.reduceBEq] at b_
    subst b_
    clear h
    rintro _ cp ⟨ac, ae, af, cq, cr, rfl, bn, bo, al, am, au, ap, aq, -⟩
    replace hI := bo
    clear bo
    have h := a5 ac bn
    clear a5 bn
    refine W_seq_k fun K18 k18 => ?_
    refine W_seq_k fun K19 k19 => ?_
    refine W_region [50, 51, 52, 53, 54, 55] rfl (Ops_step (R_move rfl) rfl rfl (Ops_step (R_nilCheck rfl) rfl rfl (Ops_step (R_fieldAddr fo120_0 rfl) rfl rfl (Ops_step (R_fieldAddr fo118_2 rfl) rfl rfl ?_))))
    refine Ops_step (R_loadB (v := vi ac.source_.err_) ag32 rfl au.blk rfl) rfl rfl ?_
    refine Ops_step (R_neq rfl rfl) rfl rfl ?_
    refine Ops_nil ?_
    refine then_n (k19 _ _ ?_)
    clear k19 K19
    refine W_keepB [7, 55] fun B_ b_ => ?_
    simp only [e_, Nat.reduceAdd, Nat.reduceBEq] at b_
    subst b_
    refine W_if rfl (fun ba => ?_) (fun ba => ?_)
    ·
     replace h := h.1 ba
     refine W_seq_k fun K22 k22 => ?_
     refine W_region [6] rfl (Ops_step (R_assign rfl) rfl rfl ?_)
     refine Ops_nil ?_
     refine then_n (k22 _ _ ?_)
     clear k22 K22
     refine W_ret ?_
     refine then_ret ?_
     clear k18 K18
     refine ⟨_, ⟨_, _, rfl, rfl, rfl⟩, ?_⟩
     exact ⟨0, ac, ae, af, _, _, rfl, hI, au, ap, aq, h⟩
    ·
     replace h := h.2 ba
     refine W_skip ?_
     refine then_n (k18 _ _ ?_)
     clear k18 K18
     refine W_seq_k fun K23 k23 => ?_
     refine W_region [56, 6] rfl (Ops_step (R_move rfl) rfl rfl (Ops_step (R_assign rfl) rfl rfl ?_))
     refine Ops_nil ?_
     refine then_n (k23 _ _ ?_)
     clear k23 K23
     refine W_ret ?_
     refine ⟨_, ⟨_, _, rfl, rfl, rfl⟩, ?_⟩
     exact ⟨bx, ac, ae, af, _, _, rfl, hI, au, ap, aq, h⟩

theorem octet_Reader_End_ok {G : Gh} {w : World} (hS : St G w) (hg : GL G) {d0 : Nat} {z0 : octet_Reader} {af : Option Addr} {ag : Nat} (ab : Tok G w d0 120 ([.slice af z0.source_.b_.length ag, vi z0.source_.at_, vi z0.source_.err_, .bool z0.source_.made_])) (ah : z0.source_.b_.length ≤ ag) (aa : Sl G af z0.source_.b_) {Q : Int → Prop} (h : octet_Reader_End z0 Q) : Calls Try.prog 69 #[.pointer (some ⟨d0, 0, none⟩)] w fun e w2 => ∃ (r0 : Int) (L H : Gh), e = .returned (vi r0) ∧ Inv [] G w L H w2 ∧ Q r0 := by
 unfold octet_Reader_End at h
 have hI := Inv.start (M := []) hS
 refine calls_W 16 Try.func69 rfl Try.ntmps69 rfl [.tmp 2] rfl ?_
 have av := ab.blk.lt
 refine W_seq_k fun K1 k1 => ?_
 refine W_region [2] rfl (Ops_step (R_assign rfl) rfl rfl ?_)
 refine Ops_nil ?_
 refine then_n (k1 _ _ ?_)
 clear k1 K1
 refine W_seq_k fun K2 k2 => ?_
 refine W_region [4, 5, 3] rfl (Ops_step (R_move rfl) rfl rfl ?_)
 refine Ops_call (C_func bd83 rfl) rfl rfl ?_
 refine (octet_Reader_Err_ok (z0 := z0) hI.st (hg.up hI.le) ab ah aa h).mono ?_
 rintro _ ba ⟨aw, bc, a5, rfl, al, h⟩
 refine Exists.elim (hI.call al (by simp)) fun am ar => ?_
 have a6 := hI.size
 replace hI := ar.1
 have ax := ar.2.1
 have ay := ar.2.2
 clear ar
 replace aa := aa.up ax.hh
 replace ab := ab.up ax (by simp)
 clear al ax ay
 refine ⟨_, rfl, ?_⟩
 refine Ops_step (R_assign rfl) rfl rfl ?_
 refine Ops_nil ?_
 refine then_n (k2 _ _ ?_)
 clear k2 K2
 refine W_seq_k fun K4 k4 => ?_
 refine ex_ h fun a7 ai h => ?_
 refine W_seq_join [3] [14] (fun vals_ w2 => ∃ (ae : Bool) (L H : Gh), vals_ = [.bool ae] ∧ a7 ae ∧ Inv [] G w L H w2 ∧ Le am L ∧ Le a5 H ∧ Tok H w2 d0 120 ([.slice af z0.source_.b_.length ag, vi z0.source_.at_, vi z0.source_.err_, .bool z0.source_.made_]) ∧ True) (fun B_ b_ => ?_) (fun B_ b_ => ?_)
 ·
  simp only [e_, Nat.reduceAdd, Nat.reduceBEq] at b_
  subst b_
  clear ai
  have ad := Le.refl am
  have ac := Le.refl a5
  refine W_region [6, 7, 8, 9, 10, 11, 12, 13, 14] rfl (Ops_step (R_move rfl) rfl rfl (Ops_step (R_eql rfl rfl) rfl rfl (Ops_step (R_move rfl) rfl rfl ?_)))
  refine Ops_split 8 rfl (fun aj => ?_) (fun aj => ?_)
  ·
   replace h := h.1 aj
   refine Ops_step (R_move rfl) rfl rfl (Ops_step (R_nilCheck rfl) rfl rfl (Ops_step (R_fieldAddr fo120_0 rfl) rfl rfl ?_))
   refine Ops_call (C_func bd84 rfl) rfl rfl ?_
   refine (octet_source_left_ok (z0 := z0.source_) hI.st (hg.up hI.le) ab ah aa h).mono ?_
   rintro _ bd ⟨az, be, bf, rfl, an, h⟩
   refine Exists.elim (hI.call an (by simp)) fun a8 au => ?_
   have a9 := hI.size
   replace hI := au.1
   have ao := au.2.1
   have a4 := au.2.2
   clear au
   replace aa := aa.up ao.hh
   replace ab := ab.up ao (by simp)
   replace ad := ad.trans ao.ll
   replace ac := ac.trans ao.hh
   clear an ao a4
   refine ⟨_, rfl, ?_⟩
   refine Ops_step (R_gtr rfl rfl) rfl rfl (Ops_step (R_pick_true rfl rfl) rfl rfl ?_)
   refine Ops_nil ?_
   refine then_n ?_
   exact ⟨_, rfl, ⟨(decide (az > 0)), _, _, rfl, h, hI, ad, ac, ab, trivial⟩, ⟨rfl, trivial⟩⟩
  ·
   replace h := h.2 aj
   refine Ops_pass rfl rfl (Ops_pass rfl rfl (Ops_pass rfl rfl (Ops_pass rfl rfl (Ops_pass rfl rfl ?_))))
   refine Ops_step (R_pick_false rfl rfl) rfl rfl ?_
   refine Ops_nil ?_
   refine then_n ?_
   exact ⟨_, rfl, ⟨false, _, _, rfl, h, hI, ad, ac, ab, trivial⟩, ⟨rfl, trivial⟩⟩
 ·
  simp only [e_, Nat.reduceAdd, Nat.reduceBEq] at b_
  subst b_
  clear h
  clear ab
  rintro _ bg ⟨ae, bh, bi, rfl, ap, aq, ad, ac, ab, -⟩
  replace hI := aq
  clear aq
  have h := ai ae ap
  clear ai ap
  replace aa := aa.up ac
  refine W_cond rfl (fun ak => ?_) (fun ak => ?_)
  ·
   replace h := h.1 ak
   refine W_seq_k fun K9 k9 => ?_
   refine W_region [2] rfl (Ops_step (R_assign rfl) rfl rfl ?_)
   refine Ops_nil ?_
   refine then_n (k9 _ _ ?_)
   clear k9 K9
   refine W_ret ?_
   refine then_ret ?_
   clear k4 K4
   refine ⟨_, ⟨_, _, rfl, rfl, rfl⟩, ?_⟩
   exact ⟨3, _, _, rfl, hI, h⟩
  ·
   replace h := h.2 ak
   refine W_skip ?_
   refine then_n (k4 _ _ ?_)
   clear k4 K4
   refine W_seq_k fun K10 k10 => ?_
   refine W_region [15, 2] rfl (Ops_step (R_move rfl) rfl rfl (Ops_step (R_assign rfl) rfl rfl ?_))
   refine Ops_nil ?_
   refine then_n (k10 _ _ ?_)
   clear k10 K10
   refine W_ret ?_
   refine ⟨_, ⟨_, _, rfl, rfl, rfl⟩, ?_⟩
   exact ⟨aw, _, _, rfl, hI, h⟩

theorem journal_Open_1_ok {G : Gh} {w : World} (hS : St G w) (hg : GL G) {x0 : Int} {x1 : Int} {Q : Int → Bool → Prop} (h : journal_Open_1 x0 x1 Q) : Calls Try.prog 46 #[vi x0, vi x1] w fun e w2 => ∃ (r0 : Int) (r1 : Bool) (L H : Gh), e = .returned (.tuple #[vi r0, .bool r1]) ∧ Inv [] G w L H w2 ∧ Q r0 r1 := by
 unfold journal_Open_1 at h
 have hI := Inv.start (M := []) hS
 refine calls_W 6 Try.func46 rfl Try.ntmps46 rfl [.tmp 4, .tmp 5] rfl ?_
 refine W_seq_k fun K1 k1 => ?_
 refine W_region [4, 5] rfl (Ops_step (R_assign rfl) rfl rfl (Ops_step (R_assign rfl) rfl rfl ?_))
 refine Ops_nil ?_
 refine then_n (k1 _ _ ?_)
 clear k1 K1
 refine W_seq_k fun K2 k2 => ?_
 refine W_region [4, 5] rfl (Ops_step (R_assign rfl) rfl rfl (Ops_step (R_assign rfl) rfl rfl ?_))
 refine Ops_nil ?_
 refine then_n (k2 _ _ ?_)
 clear k2 K2
 refine W_ret ?_
 refine ⟨_, ⟨_, _, rfl, rfl, ⟨_, _, rfl, rfl, rfl⟩⟩, ?_⟩
 exact ⟨0, true, _, _, rfl, hI, h⟩

theorem journal_read_ok {G : Gh} {w : World} (hS : St G w) (hg : GL G) {A0 : Option Addr} {c0 : Nat} {x0 : List UInt8} (hc0 : x0.length ≤ c0) (hs0 : Sl G A0 x0) {x1 : Int} {Q : journal_record → Bool → Prop} (h : journal_read x0 x1 Q) : Calls Try.prog 70 #[.slice A0 x0.length c0, vi x1] w fun e w2 => ∃ (l0 : List Value) (r0 : journal_record) (r1 : Bool) (L H : Gh), e = .returned (.tuple #[.agg l0.toArray, .bool r1]) ∧ Inv [] G w L H w2 ∧ Rp.cs L r0 l0 ∧ Q r0 r1 := by
 unfold journal_read at h
 have hI := Inv.start (M := []) hS
 refine calls_W 28 Try.func70 rfl Try.ntmps70 rfl [.cell 4 85, .tmp 5] rfl ?_
 refine W_seq_k fun K1 k1 => ?_
 refine W_region [4, 5] rfl ?_
 have ar := hI
 refine Ops_to (R_alloc zr85) rfl rfl ?_
 rintro _ d5 ⟨b5, rfl, bx, b6, b7⟩
 replace hI := hI.fr0 b7
 have ab : Tok G _ b5 85 ([vi 0, .slice none 0 0]) := ⟨b6.to rfl, Out.ge ar.st (Nat.le_of_eq bx.symm)⟩
 have ax : w.heap.size ≤ b5 := bx ▸ ar.size
 clear b6 bx ar b7
 refine Ops_step (R_assign rfl) rfl rfl ?_
 refine Ops_nil ?_
 refine then_n (k1 _ _ ?_)
 clear k1 K1
 refine W_seq_k fun K3 k3 => ?_
 refine W_region [9, 10, 6] rfl (Ops_step (R_move rfl) rfl rfl ?_)
 refine Ops_call (C_func bd67 rfl) rfl rfl ?_
 refine (octet_Read_ok (x0 := x0) hI.st (hg.up hI.le) hc0 hs0 h).mono ?_
 rintro _ d6 ⟨df, b8, cl, cm, d7, d8, rfl, b9, ad, au, ba, aj, h⟩
 have b4 := ad
 replace ad := Nat.le_trans hI.size ad
 refine Exists.elim (hI.call b9 (by simp)) fun dg co => ?_
 have dh := hI.size
 replace hI := co.1
 have c9 := co.2.1
 have cw := co.2.2
 clear co
 replace ab := ab.up c9 (by simp)
 clear b9 c9 cw
 refine ⟨_, rfl, ?_⟩
 refine Ops_step (R_assign rfl) rfl rfl ?_
 refine Ops_nil ?_
 refine then_n (k3 _ _ ?_)
 clear k3 K3
 refine W_seq_k fun K5 k5 => ?_
 refine W_region [11, 12, 7] rfl (Ops_step (R_move rfl) rfl rfl ?_)
 refine Ops_call (C_func bd82 rfl) rfl rfl ?_
 refine (octet_Reader_Number_ok (z0 := b8) hI.st (hg.up hI.le) au ba aj h).mono ?_
 rintro _ d9 ⟨cx, ca, cp, cq, ea, eb, rfl, cb, av, bc, ak, h⟩
 refine Exists.elim (hI.call cb (new1 ad)) fun di cr => ?_
 have dj := hI.size
 replace hI := cr.1
 have cy := cr.2.1
 have cz := cr.2.2
 clear cr
 replace ab := ab.up cy (ab.apart au (by decide))
 replace aj := aj.up cy.hh
 clear au
 clear cb cy cz
 refine ⟨_, rfl, ?_⟩
 refine Ops_step (R_assign rfl) rfl rfl ?_
 refine Ops_nil ?_
 refine then_n (k5 _ _ ?_)
 clear k5 K5
 refine W_keepB [1, 4, 6, 7] fun B_ b_ => ?_
 simp only [e_, Nat.reduceAdd, Nat.reduceBEq] at b_
 subst b_
 refine W_seq_k fun K8 k8 => ?_
 refine W_region [13, 14, 15, 8, none] rfl (Ops_step (R_move rfl) rfl rfl ?_)
 refine Ops_call (C_func bd68 rfl) rfl rfl ?_
 refine (octet_Reader_Within_ok (x1 := 0) (x2 := 31) (z0 := ca) hI.st (hg.up hI.le) av bc ak h).mono ?_
 rintro _ ec ⟨aw, cc, ct, cu, ee, da, rfl, cd, af, bd, al, h⟩
 refine Exists.elim (hI.call cd (new1 ad)) fun dk cv => ?_
 have dl := hI.size
 replace hI := cv.1
 have c5 := cv.2.1
 have c6 := cv.2.2
 clear cv
 replace ab := ab.up c5 (ab.apart av (by decide))
 replace ak := ak.up c5.hh
 clear av
 clear cd c5 c6
 refine ⟨_, rfl, ?_⟩
 refine Ops_step (R_build (pl := [(0, 1)]) (cs := [vi aw, .slice none 0 0]) zr85 pl85 rfl rfl rfl) rfl rfl ?_
 have a6 := ab.blk.lt
 have ar := hI
 refine Ops_to (R_alloc zr85) rfl rfl ?_
 rintro _ dm ⟨be, rfl, bf, bo, ay⟩
 replace hI := hI.fr0 ay
 replace ab := ab.fr0 ay
 replace af := af.fr0 ay
 have aa : Tok da _ be 85 ([vi 0, .slice none 0 0]) := ⟨bo.to rfl, Out.ge ar.st (Nat.le_of_eq bf.symm)⟩
 have am : w.heap.size ≤ be := bf ▸ ar.size
 have ah : b5 ≠ be := fun e_ => absurd a6 (by omega)
 clear bo bf ar ay
 refine Ops_to0 (R_storeN sz85 rfl rfl rfl aa.blk (Nat.le_of_ble_eq_true rfl) rfl) rfl ?_
 rintro _ dn ⟨bp, az⟩
 replace hI := hI.tok az (out1 aa.out) (new1 am)
 replace ab := ab.fr az (ne1 ah)
 replace af := af.fr az (af.apart aa (by decide))
 replace aa : Tok da _ be 85 ([vi aw, .slice none 0 0]) := ⟨bp, aa.out⟩
 clear az bp
 refine Ops_nil ?_
 refine then_n (k8 _ _ ?_)
 clear k8 K8
 refine W_seq_k fun K12 k12 => ?_
 refine W_region [16, 17, 18, none] rfl (Ops_step (R_move rfl) rfl rfl ?_)
 refine Ops_call (C_func bd85 rfl) rfl rfl ?_
 refine (octet_Reader_Bytes_ok (x1 := 16320) (z0 := cc) hI.st (hg.up hI.le) af bd al h).mono ?_
 rintro _ dp ⟨an, ao, ap, bz, ce, cf, dq, dr, rfl, bq, ag, ac, a7, ae, h⟩
 refine Exists.elim (hI.call bq (new1 ad)) fun db bl => ?_
 have cg := hI.size
 replace hI := bl.1
 have bm := bl.2.1
 have ci := bl.2.2
 clear bl
 replace ab := ab.up bm (ab.apart af (by decide))
 replace al := al.up bm.hh
 replace aa := aa.up bm (aa.apart af (by decide))
 clear af
 replace ag := OwnS.backS ag cg (Le.refl _)
 clear bq bm ci
 refine ⟨_, rfl, ?_⟩
 refine Exists.elim (ag.freeze hI) fun dt a8 => Exists.elim a8 fun c7 a8 => ?_
 replace hI := a8.1
 have bg := a8.2.1
 have a4 := a8.2.2.1 (Le.no _)
 have br := ag.cap
 replace ab := ab.up bg (ab.sep ag (by decide))
 replace aa := aa.up bg (aa.sep ag (by decide))
 replace ac := ac.up bg (ac.sep ag (by decide))
 replace ae := ae.up bg.hh
 clear a8 bg ag
 refine Ops_step (R_fieldAddr fo85_1 rfl) rfl rfl ?_
 refine Ops_to0 (R_store sz29 rfl rfl aa.blk (by show 1 < 2; decide) rfl) rfl ?_
 rintro _ du ⟨bt, a5⟩
 replace hI := hI.tok a5 (out1 aa.out) (new1 am)
 replace ab := ab.fr a5 (ne1 ah)
 replace ac := ac.fr a5 (ac.apart aa (by decide))
 replace aa : Tok c7 _ be 85 ([vi aw, .slice an ap.length ao]) := ⟨bt, aa.out⟩
 clear a5 bt
 refine Ops_nil ?_
 refine then_n (k12 _ _ ?_)
 clear k12 K12
 refine W_keepB [1, 4, 6, 7, 8] fun B_ b_ => ?_
 simp only [e_, Nat.reduceAdd, Nat.reduceBEq] at b_
 subst b_
 refine W_seq_k fun K17 k17 => ?_
 refine W_drawF [19, 20, 21, 22, 23, 24, 25, 26, 27, none, 5] [(0, true), (1, true), (2, false), (3, true), (4, true), (5, true), (6, true), (7, true), (8, true), (9, false), (10, true)] TJtB.hm rfl (by kernel_rfl) fun c8 dv ai aq => ?_
 replace hI := hI.fr0 aq
 replace ab := ab.fr0 aq
 replace aa := aa.fr0 aq
 replace ac := ac.fr0 aq
 clear aq
 refine HS_loadN ag85 sz85 rfl aa.blk (Nat.le_of_ble_eq_true rfl) rfl rfl ?_
 refine HSp (R_move rfl) rfl rfl ?_
 refine HS_call [0] _ rfl (by rw [ai]; kernel_rfl) (C_func bd69 rfl) rfl rfl ?_
 refine (octet_Reader_End_ok (z0 := bz) hI.st (hg.up hI.le) ac a7 ae h).mono ?_
 rintro _ dw ⟨dc, dx, cj, rfl, bu, h⟩
 refine Exists.elim (hI.call bu (by simp)) fun dd bn => ?_
 have de := hI.size
 replace hI := bn.1
 have a9 := bn.2.1
 have ck := bn.2.2
 clear bn
 replace ab := ab.up a9 (by simp)
 replace aa := aa.up a9 (by simp)
 replace ac := ac.up a9 (by simp)
 replace ae := ae.up a9.hh
 replace a4 := a4.up a9.ll
 clear bu a9 ck
 refine ⟨_, rfl, ⟨aa.blk, trivial⟩, ?_⟩
 refine HSp (R_eql rfl rfl) rfl rfl (HSp (R_move rfl) rfl rfl ?_)
 refine HS_split 23 rfl (fun bh => ?_) (fun bh => ?_)
 ·
  replace h := h.1 bh
  refine HSp (R_move rfl) rfl rfl (HSp (R_move rfl) rfl rfl (HSp (R_eql rfl rfl) rfl rfl (HSp (R_pick_true rfl rfl) rfl rfl ?_)))
  refine HS_to0 [] _ rfl (by rw [ai]; kernel_rfl) (R_storeN sz85 rfl rfl rfl ab.blk (Nat.le_of_ble_eq_true rfl) rfl) rfl ?_
  rintro _ dy ⟨bv, bi⟩
  replace hI := hI.tok bi (out1 ab.out) (new1 ax)
  replace aa := aa.fr bi (ne1 (Ne.symm ah))
  replace ab : Tok cj _ b5 85 ([vi aw, .slice an ap.length ao]) := ⟨bv, ab.out⟩
  clear bi bv
  refine ⟨trivial, ?_⟩
  refine HSp (R_assign rfl) rfl rfl ?_
  refine HS_nil ?_
  clear ai
  refine then_n (k17 _ _ ?_)
  clear k17 K17
  refine W_keepB [4, 5] fun B_ b_ => ?_
  simp only [e_, Nat.reduceAdd, Nat.reduceBEq] at b_
  subst b_
  refine W_ret ?_
  refine ⟨_, ⟨_, _, _, rfl, rfl, run_loadVarN ag85 sz85 ab.blk (Nat.le_of_ble_eq_true rfl), ⟨_, _, rfl, rfl, rfl⟩⟩, ?_⟩
  exact ⟨_, (journal_record.mk aw ap), (decide (cx = x1)), _, _, rfl, hI, ⟨an, ao, rfl, ⟨br, a4⟩⟩, h⟩
 ·
  replace h := h.2 bh
  refine HS_pass rfl rfl ?_
  refine HS_pass rfl rfl ?_
  refine HS_pass rfl rfl ?_
  refine HSp (R_pick_false rfl rfl) rfl rfl ?_
  refine HS_to0 [] _ rfl (by rw [ai]; kernel_rfl) (R_storeN sz85 rfl rfl rfl ab.blk (Nat.le_of_ble_eq_true rfl) rfl) rfl ?_
  rintro _ dz ⟨bw, bj⟩
  replace hI := hI.tok bj (out1 ab.out) (new1 ax)
  replace aa := aa.fr bj (ne1 (Ne.symm ah))
  replace ab : Tok cj _ b5 85 ([vi aw, .slice an ap.length ao]) := ⟨bw, ab.out⟩
  clear bj bw
  refine ⟨trivial, ?_⟩
  refine HSp (R_assign rfl) rfl rfl ?_
  refine HS_nil ?_
  clear ai
  refine then_n (k17 _ _ ?_)
  clear k17 K17
  refine W_keepB [4, 5] fun B_ b_ => ?_
  simp only [e_, Nat.reduceAdd, Nat.reduceBEq] at b_
  subst b_
  refine W_ret ?_
  refine ⟨_, ⟨_, _, _, rfl, rfl, run_loadVarN ag85 sz85 ab.blk (Nat.le_of_ble_eq_true rfl), ⟨_, _, rfl, rfl, rfl⟩⟩, ?_⟩
  exact ⟨_, (journal_record.mk aw ap), false, _, _, rfl, hI, ⟨an, ao, rfl, ⟨br, a4⟩⟩, h⟩

theorem journal_opened_ok {G : Gh} {w : World} (hS : St G w) (hg : GL G) {A0 : Option Addr} {c0 : Nat} {x0 : List UInt8} (hc0 : x0.length ≤ c0) (hs0 : Sl G A0 x0) {Q : Int → Int → (List journal_record) → Bool → Bool → Prop} (h : journal_opened x0 Q) : Calls Try.prog 45 #[.slice A0 x0.length c0, .func (.func 46) #[] #[]] w fun e w2 => ∃ (r0 : Int) (r1 : Int) (A2 : Option Addr) (c2 : Nat) (r2 : List journal_record) (r3 : Bool) (r4 : Bool) (L H : Gh), e = .returned (.tuple #[vi r0, vi r1, .slice A2 r2.length c2, .bool r3, .bool r4]) ∧ Inv [] G w L H w2 ∧ OwnS w.heap.size 85 L H w2 A2 c2 r2 ∧ Q r0 r1 r2 r3 r4 := by
 unfold journal_opened at h
 have hI := Inv.start (M := []) hS
 refine calls_W 78 Try.func45 rfl Try.ntmps45 rfl [.tmp 4, .tmp 5, .tmp 6, .tmp 7, .tmp 8] rfl ?_
 refine W_seq_k fun K1 k1 => ?_
 refine W_region [4, 5, 6, 7, 8] rfl (Ops_step (R_assign rfl) rfl rfl (Ops_step (R_assign rfl) rfl rfl (Ops_step (R_assign rfl) rfl rfl (Ops_step (R_assign rfl) rfl rfl ?_))))
 refine Ops_step (R_assign rfl) rfl rfl ?_
 refine Ops_nil ?_
 refine then_n (k1 _ _ ?_)
 clear k1 K1
 refine W_seq_k fun K2 k2 => ?_
 refine W_region [18, 19, 17, 20, 21, 9, 10] rfl (Ops_step (R_move rfl) rfl rfl ?_)
 refine Ops_call (C_func bd66 rfl) rfl rfl ?_
 refine (octet_All_ok (x0 := x0) hI.st (hg.up hI.le) hc0 hs0 h).mono ?_
 rintro _ im ⟨e9, fa, dg, dv, io, ip, rfl, dw, a8, h⟩
 refine Exists.elim (hI.call dw (by simp)) fun gf e8 => ?_
 have fb := hI.size
 replace hI := e8.1
 have fk := e8.2.1
 have dx := e8.2.2
 clear e8
 replace hs0 := hs0.up fk.hh
 replace a8 := OwnS.back a8 fb dx (Le.refl _)
 clear dw fk dx
 refine ⟨_, rfl, ?_⟩
 refine Exists.elim (a8.freeze hI) fun iq du => Exists.elim du fun ir du => ?_
 replace hI := du.1
 have fm := du.2.1
 have af := du.2.2.1 (Le.refl _)
 have dy := a8.cap
 replace hs0 := hs0.up fm.hh
 clear du fm a8
 refine Ops_step (R_move rfl) rfl rfl ?_
 refine Ops_step (R_extract (v := .slice e9 dg.length fa) rfl rfl) rfl rfl ?_
 refine Ops_step (R_extract (v := vi dv) rfl rfl) rfl rfl ?_
 refine Ops_step (R_assign rfl) rfl rfl (Ops_step (R_assign rfl) rfl rfl ?_)
 refine Ops_nil ?_
 refine then_n (k2 _ _ ?_)
 clear k2 K2
 refine W_keepB [0, 1, 6, 9, 10] fun B_ b_ => ?_
 simp only [e_, Nat.reduceAdd, Nat.reduceBEq] at b_
 subst b_
 refine W_seq_k fun K6 k6 => ?_
 refine W_seq_k fun K7 k7 => ?_
 refine W_region [22, 23, 24] rfl (Ops_step (R_move rfl) rfl rfl (Ops_step (R_len Try.underlying67 rfl rfl) rfl rfl (Ops_step (R_eql rfl rfl) rfl rfl ?_)))
 refine Ops_nil ?_
 refine then_n (k7 _ _ ?_)
 clear k7 K7
 refine W_if rfl (fun dh => ?_) (fun dh => ?_)
 ·
  replace h := h.1 dh
  refine W_seq_k fun K9 k9 => ?_
  refine W_region [4, 5, 6, 7, 8] rfl (Ops_step (R_assign rfl) rfl rfl (Ops_step (R_assign rfl) rfl rfl (Ops_step (R_assign rfl) rfl rfl (Ops_step (R_assign rfl) rfl rfl ?_))))
  refine Ops_step (R_assign rfl) rfl rfl ?_
  refine Ops_nil ?_
  refine then_n (k9 _ _ ?_)
  clear k9 K9
  refine W_keepB [4, 5, 6, 7, 8] fun B_ b_ => ?_
  simp only [e_, Nat.reduceAdd, Nat.reduceBEq] at b_
  subst b_
  refine W_ret ?_
  refine then_ret ?_
  clear k6 K6
  refine ⟨_, ⟨_, _, rfl, rfl, ⟨_, _, rfl, rfl, ⟨_, _, rfl, rfl, ⟨_, _, rfl, rfl, ⟨_, _, rfl, rfl, rfl⟩⟩⟩⟩⟩, ?_⟩
  exact ⟨0, 0, none, 0, [], false, false, _, _, rfl, hI, OwnS.nil, h⟩
 ·
  replace h := h.2 dh
  refine W_skip ?_
  refine then_n (k6 _ _ ?_)
  clear k6 K6
  refine W_seq_k fun K11 k11 => ?_
  refine W_region [25, 26, 27, 28, 11] rfl (Ops_step (R_move rfl) rfl rfl ?_)
  refine ex_ h fun fc be h => ?_
  have dz := ((af.up hI.sub).atL be).1
  refine Exists.elim ((af.up hI.sub).atL be).2 fun gg au => Exists.elim au fun gh au => ?_
  have d5 := au.1
  have d6 := au.2.1
  have bp := au.2.2
  clear au
  refine Ops_step (R_indexSl Try.underlying67 sz29 rfl rfl be.1 be.lt dz) rfl rfl (Ops_step (R_load ag29 rfl (hI.st _ _ bp)) rfl rfl ?_)
  refine Ops_call (C_func bd67 rfl) rfl rfl ?_
  refine (octet_Read_ok (x0 := fc) hI.st (hg.up hI.le) d5 d6 h).mono ?_
  rintro _ gi ⟨fo, di, d7, d8, gj, gk, rfl, cm, ab, bf, bl, ag, h⟩
  have dj := ab
  replace ab := Nat.le_trans hI.size ab
  refine Exists.elim (hI.call cm (by simp)) fun fp ca => ?_
  have fq := hI.size
  replace hI := ca.1
  have cb := ca.2.1
  have d9 := ca.2.2
  clear ca
  replace hs0 := hs0.up cb.hh
  replace af := af.up cb.ll
  replace bp := cb.hh _ _ bp
  clear cm cb d9
  refine ⟨_, rfl, ?_⟩
  refine Ops_step (R_assign rfl) rfl rfl ?_
  refine Ops_nil ?_
  refine then_n (k11 _ _ ?_)
  clear k11 K11
  refine W_keepB [0, 1, 6, 9, 10, 11] fun B_ b_ => ?_
  simp only [e_, Nat.reduceAdd, Nat.reduceBEq] at b_
  subst b_
  refine W_seq_k fun K15 k15 => ?_
  refine W_region [29, 30, 31, 32, 4, 5] rfl (Ops_step (R_move rfl) rfl rfl ?_)
  refine Ops_call (C_func bd68 rfl) rfl rfl ?_
  refine (octet_Reader_Within_ok (x1 := 1) (x2 := 1099511627776) (z0 := di) hI.st (hg.up hI.le) bf bl ag h).mono ?_
  rintro _ gl ⟨co, dk, ea, eb, gm, gn, rfl, cp, bg, bm, ah, h⟩
  refine Exists.elim (hI.call cp (new1 ab)) fun ft cc => ?_
  have fu := hI.size
  replace hI := cc.1
  have cd := cc.2.1
  have ec := cc.2.2
  clear cc
  replace hs0 := hs0.up cd.hh
  replace af := af.up cd.ll
  replace ag := ag.up cd.hh
  clear bf
  clear cp cd ec
  refine ⟨_, rfl, ?_⟩
  refine Ops_step (R_move rfl) rfl rfl ?_
  refine Ops_call (C_func bd68 rfl) rfl rfl ?_
  refine (octet_Reader_Within_ok (x1 := 0) (x2 := 1099511627776) (z0 := dk) hI.st (hg.up hI.le) bg bm ah h).mono ?_
  rintro _ go ⟨cq, dl, ee, eg, gp, gq, rfl, cr, ay, bn, ai, h⟩
  refine Exists.elim (hI.call cr (new1 ab)) fun fv ce => ?_
  have fw := hI.size
  replace hI := ce.1
  have cf := ce.2.1
  have eh := ce.2.2
  clear ce
  replace hs0 := hs0.up cf.hh
  replace af := af.up cf.ll
  replace ah := ah.up cf.hh
  clear bg
  clear cr cf eh
  refine ⟨_, rfl, ?_⟩
  refine Ops_step (R_assign rfl) rfl rfl (Ops_step (R_assign rfl) rfl rfl ?_)
  refine Ops_nil ?_
  refine then_n (k15 _ _ ?_)
  clear k15 K15
  refine W_seq_k fun K18 k18 => ?_
  refine W_seq_k fun K19 k19 => ?_
  refine W_region [33, 34, 35] rfl (Ops_step (R_move rfl) rfl rfl ?_)
  refine Ops_call (C_func bd69 rfl) rfl rfl ?_
  refine (octet_Reader_End_ok (z0 := dl) hI.st (hg.up hI.le) ay bn ai h).mono ?_
  rintro _ gr ⟨fx, gt, gu, rfl, ct, h⟩
  refine Exists.elim (hI.call ct (by simp)) fun fy cg => ?_
  have f0 := hI.size
  replace hI := cg.1
  have bq := cg.2.1
  have ei := cg.2.2
  clear cg
  replace hs0 := hs0.up bq.hh
  replace af := af.up bq.ll
  replace ay := ay.up bq (by simp)
  replace ai := ai.up bq.hh
  clear ct bq ei
  refine ⟨_, rfl, ?_⟩
  refine Ops_step (R_neq rfl rfl) rfl rfl ?_
  refine Ops_nil ?_
  refine then_n (k19 _ _ ?_)
  clear k19 K19
  refine W_keepB [0, 1, 4, 5, 6, 9, 10, 35] fun B_ b_ => ?_
  simp only [e_, Nat.reduceAdd, Nat.reduceBEq] at b_
  subst b_
  refine W_if rfl (fun br => ?_) (fun br => ?_)
  ·
   replace h := h.1 br
   refine W_seq_k fun K23 k23 => ?_
   refine W_region [4, 5, 6, 7, 8] rfl (Ops_step (R_assign rfl) rfl rfl (Ops_step (R_assign rfl) rfl rfl (Ops_step (R_assign rfl) rfl rfl (Ops_step (R_assign rfl) rfl rfl ?_))))
   refine Ops_step (R_assign rfl) rfl rfl ?_
   refine Ops_nil ?_
   refine then_n (k23 _ _ ?_)
   clear k23 K23
   refine W_ret ?_
   refine then_ret ?_
   clear k18 K18
   refine ⟨_, ⟨_, _, rfl, rfl, ⟨_, _, rfl, rfl, ⟨_, _, rfl, rfl, ⟨_, _, rfl, rfl, ⟨_, _, rfl, rfl, rfl⟩⟩⟩⟩⟩, ?_⟩
   exact ⟨0, 0, none, 0, [], false, false, _, _, rfl, hI, OwnS.nil, h⟩
  ·
   replace h := h.2 br
   refine W_skip ?_
   refine then_n (k18 _ _ ?_)
   clear k18 K18
   refine W_seq_k fun K24 k24 => ?_
   refine W_region [37, 38, 39, 40, 36, 41, 42, 12, 8] rfl (Ops_step (R_move rfl) rfl rfl (Ops_step (R_move rfl) rfl rfl (Ops_step (R_move rfl) rfl rfl ?_)))
   refine Ops_call (C_val bd46 rfl rfl) rfl rfl ?_
   refine (journal_Open_1_ok (x0 := co) (x1 := cq) hI.st (hg.up hI.le)  h).mono ?_
   rintro _ gv ⟨cu, ej, gw, dm, rfl, cv, h⟩
   refine Exists.elim (hI.call cv (by simp)) fun bt ci => ?_
   have f8 := hI.size
   replace hI := ci.1
   have dn := ci.2.1
   have ek := ci.2.2
   clear ci
   replace hs0 := hs0.up dn.hh
   replace af := af.up dn.ll
   clear cv dn ek
   refine ⟨_, rfl, ?_⟩
   refine Ops_step (R_move rfl) rfl rfl ?_
   refine Ops_step (R_extract (v := vi cu) rfl rfl) rfl rfl ?_
   refine Ops_step (R_extract (v := .bool ej) rfl rfl) rfl rfl ?_
   refine Ops_step (R_assign rfl) rfl rfl (Ops_step (R_assign rfl) rfl rfl ?_)
   refine Ops_nil ?_
   refine then_n (k24 _ _ ?_)
   clear k24 K24
   refine W_keepB [0, 4, 5, 6, 8, 9, 10, 12] fun B_ b_ => ?_
   simp only [e_, Nat.reduceAdd, Nat.reduceBEq] at b_
   subst b_
   refine W_seq_k fun K27 k27 => ?_
   refine W_seq_k fun K28 k28 => ?_
   refine W_region [43, 44] rfl (Ops_step (R_move rfl) rfl rfl (Ops_step (R_not rfl) rfl rfl ?_))
   refine Ops_nil ?_
   refine then_n (k28 _ _ ?_)
   clear k28 K28
   refine W_cond rfl (fun bu => ?_) (fun bu => ?_)
   ·
    replace h := h.1 bu
    refine W_seq_k fun K30 k30 => ?_
    refine W_region [4, 5, 6, 7, 8] rfl (Ops_step (R_assign rfl) rfl rfl (Ops_step (R_assign rfl) rfl rfl (Ops_step (R_assign rfl) rfl rfl (Ops_step (R_assign rfl) rfl rfl ?_))))
    refine Ops_step (R_assign rfl) rfl rfl ?_
    refine Ops_nil ?_
    refine then_n (k30 _ _ ?_)
    clear k30 K30
    refine W_keepB [4, 5, 6, 7, 8] fun B_ b_ => ?_
    simp only [e_, Nat.reduceAdd, Nat.reduceBEq] at b_
    subst b_
    refine W_ret ?_
    refine then_ret ?_
    clear k27 K27
    refine ⟨_, ⟨_, _, rfl, rfl, ⟨_, _, rfl, rfl, ⟨_, _, rfl, rfl, ⟨_, _, rfl, rfl, ⟨_, _, rfl, rfl, rfl⟩⟩⟩⟩⟩, ?_⟩
    exact ⟨0, 0, none, 0, [], false, false, _, _, rfl, hI, OwnS.nil, h⟩
   ·
    replace h := h.2 bu
    refine W_skip ?_
    refine then_n (k27 _ _ ?_)
    clear k27 K27
    refine ex_ h fun fd bv h => ?_
    refine W_seq_join [0, 10] [4, 5, 6] (fun vals_ w2 => ∃ (a9 : Int) (ba : Int) (av : List journal_record) (bh : Option Addr) (bi : Nat) (L H : Gh), vals_ = [vi a9, vi ba, .slice bh av.length bi] ∧ fd a9 ba av ∧ Inv [] G w L H w2 ∧ Le bt L ∧ Le dm H ∧ OwnS w.heap.size 85 L H w2 bh bi av ∧ True) (fun B_ b_ => ?_) (fun B_ b_ => ?_)
    ·
     simp only [e_, Nat.reduceAdd, Nat.reduceBEq] at b_
     subst b_
     clear bv
     have aj := Le.refl bt
     have ad := Le.refl dm
     refine W_seq_k fun K33 k33 => ?_
     refine W_region [45, 46, 47, 48] rfl (Ops_step (R_move rfl) rfl rfl ?_)
     have cw := h.1
     replace h := h.2
     refine Exists.elim (cut_ex (n := 1) (l := 1) (h := (dg.length : Int)) (af.up hI.sub) rfl (by decide) dy (by decide) cw (Int.le_refl _)) fun gx bo => Exists.elim bo fun gy bo => ?_
     have cx := bo.1
     have f9 := bo.2.1
     have aw := bo.2.2
     clear bo
     refine Ops_step (X_slice (xs := dg) Try.underlying67 sz29 rfl cx dy rfl rfl (by decide) cw (Int.le_refl _)) rfl rfl ?_
     clear cx
     refine Ops_step (R_len Try.underlying67 rfl rfl) rfl rfl (Ops_step (R_move rfl) rfl rfl ?_)
     refine Ops_nil ?_
     refine then_n (k33 _ _ ?_)
     clear k33 K33
     refine W_block ?_
     refine Exists.elim h fun fe h => Exists.elim h fun ff h => ?_
     have ga := h.1
     have cy := h.2
     clear h
     refine W_loopB [0, 10, 12, 46, 47] [4, 5, 6, 48] (fun m vals_ w2 => ∃ (an : Int) (ao : Int) (ac : List journal_record) (ap : Option Addr) (aq : Nat) (ar : Int) (L H : Gh), vals_ = [vi an, vi ao, .slice ap ac.length aq, vi ar] ∧ fe m an ao ac ar ∧ Inv [] G w L H w2 ∧ Le bt L ∧ Le dm H ∧ OwnS w.heap.size 85 L H w2 ap aq ac ∧ True) ff _ rfl ⟨co, cq, [], none, 0, 0, _, _, rfl, ga, hI, Le.refl _, Le.refl _, OwnS.nil, trivial⟩ fun B_ b_ => ?_
     clear ga
     simp only [e_, Nat.reduceAdd, Nat.reduceBEq] at b_
     subst b_
     rintro fg _ gz ⟨an, ao, ac, ap, aq, ar, g6, g7, rfl, cz, c5, az, ak, aa, -⟩
     replace hI := c5
     clear c5
     have h := cy fg an ao ac ar cz
     clear cy cz
     replace hs0 := hs0.up ak
     replace aj := aj.trans az
     replace ad := ad.trans ak
     replace aw := aw.up ak
     refine W_seq_k fun K37 k37 => ?_
     refine W_region [49] rfl (Ops_step (R_lss rfl rfl) rfl rfl ?_)
     refine Ops_nil ?_
     refine then_n (k37 _ _ ?_)
     clear k37 K37
     refine W_seq_k fun K38 k38 => ?_
     refine W_if rfl (fun bw => ?_) (fun bw => ?_)
     ·
      replace h := h.1 bw
      refine W_skip ?_
      refine then_n (k38 _ _ ?_)
      clear k38 K38
      refine W_seq_k fun K40 k40 => ?_
      refine W_block ?_
      refine W_seq_k fun K41 k41 => ?_
      refine W_region [50, 51, 14] rfl ?_
      refine ex_ h fun fh bj h => ?_
      have en := (aw.atL bj).1
      refine Exists.elim (aw.atL bj).2 fun g8 ax => Exists.elim ax fun g9 ax => ?_
      have eo := ax.1
      have ep := ax.2.1
      have eq := ax.2.2
      clear ax
      refine Ops_step (R_indexSl Try.underlying67 sz29 rfl rfl bj.1 bj.lt en) rfl rfl (Ops_step (R_load ag29 rfl (hI.st _ _ eq)) rfl rfl (Ops_step (R_assign rfl) rfl rfl ?_))
      refine Ops_nil ?_
      refine then_n (k41 _ _ ?_)
      clear k41 K41
      refine W_seq_k fun K43 k43 => ?_
      refine W_region [53, 54, 55, 56, 57, 58, 52, 59, 60, 15, none, 16] rfl (Ops_step (R_move rfl) rfl rfl (Ops_step (R_move rfl) rfl rfl (Ops_step (R_move rfl) rfl rfl (Ops_step (R_len Try.underlying41 rfl rfl) rfl rfl ?_))))
      have c6 := h.1
      replace h := h.2
      refine Ops_step (R_add rfl rfl (wI c6.1 c6.2)) rfl rfl ?_
      refine Ops_call (C_func bd70 rfl) rfl rfl ?_
      refine (journal_read_ok (x0 := fh) (x1 := (cu + (ac.length : Int))) hI.st (hg.up hI.le) eo ep h).mono ?_
      rintro _ ia ⟨gb, ae, et, ib, dp, rfl, c7, bd, h⟩
      refine Exists.elim (hI.call c7 (by simp)) fun eu cj => ?_
      have gc := hI.size
      replace hI := cj.1
      have a4 := cj.2.1
      have c8 := cj.2.2
      clear cj
      replace hs0 := hs0.up a4.hh
      replace aj := aj.trans a4.ll
      replace ad := ad.trans a4.hh
      replace aw := aw.up a4.hh
      replace aa := aa.up a4.ll a4 (by simp)
      replace az := az.trans a4.ll
      replace ak := ak.trans a4.hh
      replace bd := Rp.mono c8 bd
      obtain ⟨al, am, rfl, ⟨bx, bz⟩⟩ := bd
      clear c7 a4 c8
      refine ⟨_, rfl, ?_⟩
      refine Ops_step (R_move rfl) rfl rfl ?_
      refine Ops_step (R_extract (v := .agg #[vi ae.label_, .slice al ae.data_.length am]) rfl rfl) rfl rfl ?_
      refine Ops_step (R_extract (v := .bool et) rfl rfl) rfl rfl ?_
      have a5 := aa.lt
      have dq := hI
      refine Ops_to (R_alloc zr85) rfl rfl ?_
      rintro _ ic ⟨ck, rfl, b4, c9, b5⟩
      replace hI := hI.fr0 b5
      replace aa := aa.fr0 b5
      have bc : Tok dp _ ck 85 ([vi 0, .slice none 0 0]) := ⟨c9.to rfl, Out.ge dq.st (Nat.le_of_eq b4.symm)⟩
      have b6 : w.heap.size ≤ ck := b4 ▸ dq.size
      have a6 : ∀ i_ ∈ bk ap aq, i_ ∉ [ck] := fun i_ hi_ hm_ => by have h_ := a5 i_ hi_; rw [List.mem_singleton] at hm_; omega
      clear c9 b4 dq b5
      refine Ops_to0 (R_storeN sz85 rfl rfl rfl bc.blk (Nat.le_of_ble_eq_true rfl) rfl) rfl ?_
      rintro _ ie ⟨da, b7⟩
      replace hI := hI.tok b7 (out1 bc.out) (new1 b6)
      replace aa := aa.fr b7 a6
      replace bc : Tok dp _ ck 85 ([vi ae.label_, .slice al ae.data_.length am]) := ⟨da, bc.out⟩
      clear b7 da
      refine Ops_step (R_assign rfl) rfl rfl ?_
      refine Ops_nil ?_
      refine then_n (k43 _ _ ?_)
      clear k43 K43
      refine W_keepB [0, 4, 5, 6, 10, 12, 15, 16, 46, 47, 48] fun B_ b_ => ?_
      simp only [e_, Nat.reduceAdd, Nat.reduceBEq] at b_
      subst b_
      refine W_seq_k fun K49 k49 => ?_
      refine W_seq_k fun K50 k50 => ?_
      refine W_region [61, 62] rfl (Ops_step (R_move rfl) rfl rfl (Ops_step (R_not rfl) rfl rfl ?_))
      refine Ops_nil ?_
      refine then_n (k50 _ _ ?_)
      clear k50 K50
      refine W_cond rfl (fun b8 => ?_) (fun b8 => ?_)
      ·
       replace h := h.1 b8
       refine W_seq_k fun K52 k52 => ?_
       refine W_region [63, 64, 65, 4, 5, 6, 7, 8] rfl (Ops_step (R_move rfl) rfl rfl (Ops_step (R_move rfl) rfl rfl (Ops_step (R_move rfl) rfl rfl (Ops_step (R_assign rfl) rfl rfl ?_))))
       refine Ops_step (R_assign rfl) rfl rfl (Ops_step (R_assign rfl) rfl rfl (Ops_step (R_assign rfl) rfl rfl (Ops_step (R_assign rfl) rfl rfl ?_)))
       refine Ops_nil ?_
       refine then_n (k52 _ _ ?_)
       clear k52 K52
       refine W_keepB [4, 5, 6, 7, 8] fun B_ b_ => ?_
       simp only [e_, Nat.reduceAdd, Nat.reduceBEq] at b_
       subst b_
       refine W_ret ?_
       refine then_ret ?_
       clear k49 K49
       refine block_ret ?_
       refine then_ret ?_
       clear k40 K40
       refine then_ret ?_
       refine block_ret ?_
       refine then_ret ?_
       refine ⟨_, ⟨_, _, rfl, rfl, ⟨_, _, rfl, rfl, ⟨_, _, rfl, rfl, ⟨_, _, rfl, rfl, ⟨_, _, rfl, rfl, rfl⟩⟩⟩⟩⟩, ?_⟩
       exact ⟨an, ao, ap, aq, ac, false, true, _, _, rfl, hI, aa, h⟩
      ·
       replace h := h.2 b8
       refine W_skip ?_
       refine then_n (k49 _ _ ?_)
       clear k49 K49
       refine W_region [66, 67, 68, 69, 6] rfl (Ops_step (R_move rfl) rfl rfl (Ops_step (R_loadN ag85 sz85 rfl bc.blk (Nat.le_of_ble_eq_true rfl)) rfl rfl ?_))
       have a7 := aa.lt
       refine Ops_to (R_buildSlice el41 zr85 (by decide) (by decide) rfl rfl) rfl rfl ?_
       rintro _ ig ⟨ew, rfl, ex, db, b9⟩
       have ey : OwnS w.heap.size 85 eu dp _ (some ⟨ew, 0, none⟩) 1 ([ae] : List journal_record) := OwnS.ofBlk (css := [[vi ae.label_, .slice al ae.data_.length am]]) hI.st ex db (.cons ⟨al, am, rfl, ⟨bx, bz⟩⟩ .nil) rfl (by have := hI.size; omega) (by show 1 ≤ maxLen; decide)
       replace hI := hI.fr0 b9
       replace aa := aa.fr0 b9
       clear b9 db
       have cl : ∀ i ∈ bk (some ⟨ew, 0, none⟩) 1, i ∉ bk ap aq := sep_new (fun i_ hi_ => by have := (bk_of hi_).1; simp only [blkOf, List.mem_singleton] at this; omega) a7
       have ez := h.1
       replace h := h.2
       refine Ops_to (X_append (α := journal_record) (xs := ac) (ys := ([ae] : List journal_record)) el41 rfl rfl aa (Srcs.ofOwn Try.underlying41 ey (by decide)) hI.st ez (by decide) hI.size) rfl rfl ?_
       rintro _ ii ⟨fi, fj, rfl, e5, dc, dr⟩
       clear dr
       replace hI := hI.tok dc aa.out (aa.new (Nat.le_refl _))
       clear dc aa
       refine Ops_step (R_assign rfl) rfl rfl ?_
       refine Ops_nil ?_
       refine block_n ?_
       refine then_n (k40 _ _ ?_)
       clear k40 K40
       refine W_keepB [0, 4, 5, 6, 10, 12, 46, 47, 48] fun B_ b_ => ?_
       simp only [e_, Nat.reduceAdd, Nat.reduceBEq] at b_
       subst b_
       refine W_region [70, 48] rfl ?_
       have dd := h.1
       replace h := h.2
       refine Ops_step (R_add rfl rfl (wI dd.1 dd.2)) rfl rfl (Ops_step (R_move rfl) rfl rfl ?_)
       refine Ops_nil ?_
       refine then_n ?_
       exact h.elim fun m_ h => ⟨m_, _, h.1, rfl, ⟨an, ao, (ac ++ ([ae] : List journal_record)), fi, fj, (ar + 1), _, _, rfl, h.2, hI, az, ak, e5, trivial⟩, ⟨rfl, rfl, rfl, rfl, rfl, trivial⟩⟩
     ·
      replace h := h.2 bw
      refine W_exit ?_
      refine then_exit ?_
      clear k38 K38
      refine then_exit ?_
      refine block_exit ?_
      refine then_n ?_
      exact ⟨_, rfl, ⟨an, ao, ac, ap, aq, _, _, rfl, h, hI, aj, ad, aa, trivial⟩, ⟨rfl, rfl, trivial⟩⟩
    ·
     simp only [e_, Nat.reduceAdd, Nat.reduceBEq] at b_
     subst b_
     clear h
     rintro _ ij ⟨a9, ba, av, bh, bi, ik, il, rfl, de, df, aj, ad, dt, -⟩
     replace hI := df
     clear df
     have h := bv a9 ba av de
     clear bv de
     replace hs0 := hs0.up ad
     refine W_seq_k fun K59 k59 => ?_
     refine W_region [71, 72, 73, 74, 75, 76, 77, 4, 5, 6, 7, 8] rfl (Ops_step (R_move rfl) rfl rfl (Ops_step (R_move rfl) rfl rfl (Ops_step (R_move rfl) rfl rfl (Ops_step (R_move rfl) rfl rfl ?_))))
     refine Ops_step (R_move rfl) rfl rfl (Ops_step (R_len Try.underlying29 rfl rfl) rfl rfl (Ops_step (R_eql rfl rfl) rfl rfl (Ops_step (R_assign rfl) rfl rfl (Ops_step (R_assign rfl) rfl rfl ?_))))
     refine Ops_step (R_assign rfl) rfl rfl (Ops_step (R_assign rfl) rfl rfl (Ops_step (R_assign rfl) rfl rfl ?_))
     refine Ops_nil ?_
     refine then_n (k59 _ _ ?_)
     clear k59 K59
     refine W_keepB [4, 5, 6, 7, 8] fun B_ b_ => ?_
     simp only [e_, Nat.reduceAdd, Nat.reduceBEq] at b_
     subst b_
     refine W_ret ?_
     refine ⟨_, ⟨_, _, rfl, rfl, ⟨_, _, rfl, rfl, ⟨_, _, rfl, rfl, ⟨_, _, rfl, rfl, ⟨_, _, rfl, rfl, rfl⟩⟩⟩⟩⟩, ?_⟩
     exact ⟨a9, ba, bh, bi, av, (decide (dv = (x0.length : Int))), true, _, _, rfl, hI, dt, h⟩

theorem journal_book_add_ok {G : Gh} {w : World} (hS : St G w) (hg : GL G) {d0 : Nat} {z0 : journal_Journal} {aj : Option Addr} {ak : Nat} {d1 : Nat} {z1 : List (Int × Int)} (ab : MTok G G w d1 z1) {d2 : Nat} {z2 : disk_Disk} {a7 : Option Addr} {a8 : Nat} {a9 : Option Addr} {ba : Nat} {bc : Option Addr} {bd : Nat} (ad : Tok G w d2 53 ([.slice a7 z2.files_.e0_.length a8, .slice a9 z2.files_.e1_.length ba, .slice bc z2.files_.e2_.length bd, vi z2.room_, .bool z2.off_, .bool z2.armed_, vi z2.left_])) (b8 : z2.files_.e0_.length ≤ a8) (au : Sl G a7 z2.files_.e0_) (b9 : z2.files_.e1_.length ≤ ba) (av : Sl G a9 z2.files_.e1_) (ca : z2.files_.e2_.length ≤ bd) (aw : Sl G bc z2.files_.e2_) (aa : Tok G w d0 46 ([.slice aj z0.book_.l_.length ak, .map (some d1), .pointer (some ⟨d2, 0, none⟩), vi z0.gen_, vi z0.place_])) (bj : z0.book_.l_.length ≤ ak) (an : Sl G aj z0.book_.l_) {l1 : List Value} {x1 : journal_record} (hr1 : Rp.cs G x1 l1) {Q : journal_Journal → (List (Int × Int)) → Prop} (h : journal_book_add z0 z1 z2 x1 Q) : Calls Try.prog 43 #[.pointer (some ⟨d0, 0 + 0, none⟩), .agg l1.toArray] w fun e w2 => ∃ (y0 : journal_Journal) (be : Option Addr) (bf : Nat) (y1 : List (Int × Int)) (L H : Gh), e = .returned (.tuple #[]) ∧ Inv [d0, d1] G w L H w2 ∧ Tok H w2 d0 46 ([.slice be y0.book_.l_.length bf, .map (some d1), .pointer (some ⟨d2, 0, none⟩), vi y0.gen_, vi y0.place_]) ∧ y0.book_.l_.length ≤ bf ∧ Sl H be y0.book_.l_ ∧ MTok H H w2 d1 y1 ∧ Q y0 y1 := by
 unfold journal_book_add at h
 have hI := Inv.start (M := [d0, d1]) hS
 refine calls_W 36 Try.func43 rfl Try.ntmps43 rfl [] rfl ?_
 obtain ⟨a5, a6, rfl, ⟨bq, ax⟩⟩ := hr1
 have bl := aa.blk.lt
 have bm := ab.lt
 have bn := ad.blk.lt
 refine W_seq_k fun K1 k1 => ?_
 refine W_region [3] rfl ?_
 have bo := hI
 refine Ops_to (R_box rfl) rfl rfl ?_
 rintro _ cu ⟨b6, rfl, bp, br, ay⟩
 replace hI := hI.fr0 ay
 replace ab := ab.fr0 ay
 replace ad := ad.fr0 ay
 replace aa := aa.fr0 ay
 have ac : Tok G _ b6 85 ([vi x1.label_, .slice a5 x1.data_.length a6]) := ⟨br.to rfl, Out.ge bo.st (Nat.le_of_eq bp.symm)⟩
 have b7 : w.heap.size ≤ b6 := bp ▸ bo.size
 clear br bp bo ay
 refine Ops_nil ?_
 refine then_n (k1 _ _ ?_)
 clear k1 K1
 refine W_seq_k fun K3 k3 => ?_
 refine W_drawF [4, 5, 6, 7, 8, 9, 10, 11, 12, 13, 14, 15, 16, 17, 18, 19, 20, 21, 22, 23, 24, none] [(0, true), (1, true), (2, true), (3, true), (4, true), (5, true), (6, true), (7, true), (8, true), (9, true), (10, true), (11, true), (12, true), (13, true), (14, true), (15, true), (16, true), (17, false), (18, false), (19, true), (20, true), (21, false)] TJtB.hm rfl (by kernel_rfl) fun cl cv ag ao => ?_
 replace hI := hI.fr0 ao
 replace ab := ab.fr0 ao
 replace ad := ad.fr0 ao
 replace aa := aa.fr0 ao
 replace ac := ac.fr0 ao
 clear ao
 refine HSp (R_move rfl) rfl rfl (HSp (R_move rfl) rfl rfl (HSp (R_nilCheck rfl) rfl rfl (HSp (R_fieldAddr fo44_0 rfl) rfl rfl ?_)))
 refine HS_loadB (v := .slice aj z0.book_.l_.length ak) ag41 rfl aa.blk rfl rfl rfl ?_
 refine HSp (R_move rfl) rfl rfl (HSp (R_nilCheck rfl) rfl rfl (HSp (R_fieldAddr fo44_0 rfl) rfl rfl ?_))
 refine HS_loadB (v := .slice aj z0.book_.l_.length ak) ag41 rfl aa.blk rfl rfl rfl ?_
 refine HSp (R_len Try.underlying41 rfl rfl) rfl rfl (HSp (R_move rfl) rfl rfl (HSp (R_nilCheck rfl) rfl rfl (HSp (R_fieldAddr fo44_0 rfl) rfl rfl ?_)))
 refine HS_loadB (v := .slice aj z0.book_.l_.length ak) ag41 rfl aa.blk rfl rfl rfl ?_
 refine HSp (R_len Try.underlying41 rfl rfl) rfl rfl ?_
 have bt := h.1
 replace h := h.2
 refine Exists.elim (cut_ex3 (n := 2) an rfl (by decide) (Int.le_refl 0) bt (Int.le_refl _)) fun cw cb => ?_
 have bu := cb.1
 have cc := cb.2
 clear cb
 refine HSp (X_slice3 (xs := z0.book_.l_) Try.underlying41 sz85 rfl bu bj rfl rfl rfl (Int.le_refl 0) bt (Int.le_refl _)) rfl rfl ?_
 clear bu
 refine HS_loadN ag85 sz85 rfl ac.blk (Nat.le_of_ble_eq_true rfl) rfl rfl ?_
 have bv := ac.blk.lt
 refine HS_to [13, 8, 4] _ rfl (by rw [ag]; kernel_rfl) (R_buildSlice el41 zr85 (by decide) (by decide) rfl rfl) rfl rfl ?_
 rintro _ cx ⟨cm, rfl, cd, bw, ap⟩
 have ce : OwnS w.heap.size 85 G G _ (some ⟨cm, 0, none⟩) 1 ([x1] : List journal_record) := OwnS.ofBlk (css := [[vi x1.label_, .slice a5 x1.data_.length a6]]) hI.st cd bw (.cons ⟨a5, a6, rfl, ⟨bq, ax⟩⟩ .nil) rfl (by have := hI.size; omega) (by show 1 ≤ maxLen; decide)
 replace hI := hI.fr0 ap
 replace ab := ab.fr0 ap
 replace ad := ad.fr0 ap
 replace aa := aa.fr0 ap
 replace ac := ac.fr0 ap
 clear ap bw
 have bx : ∀ i_ ∈ bk (some ⟨cm, 0, none⟩) 1, i_ ∉ [b6] := fun i_ hi_ hm_ => by have h_ := (fun i_ hi_ => by have := (bk_of hi_).1; simp only [blkOf, List.mem_singleton] at this; omega) i_ hi_; rw [List.mem_singleton] at hm_; omega
 refine ⟨⟨(aa.blk.at_ rfl), (aa.blk.at_ rfl), (aa.blk.at_ rfl), trivial⟩, ?_⟩
 have cf := h.1
 replace h := h.2
 have bz := ac.blk.lt
 refine HS_to [] _ rfl (by rw [ag]; kernel_rfl) (X_appendTight (α := journal_record) (xs := (cut z0.book_.l_ 0 (z0.book_.l_.length : Int))) (ys := ([x1] : List journal_record)) (B := _) el41 rfl rfl rfl cc (Srcs.ofOwn Try.underlying41 ce (by decide)) (by show 0 < 1; decide) hI.st hI.st cf (by decide) (Nat.le_refl _)) rfl rfl ?_
 rintro _ cy ⟨cg, ci, rfl, ah, aq⟩
 have az : ∀ i_ ∈ bk cg ci, i_ ∉ [b6] := fun i_ hi_ hm_ => by have h_ := ah.off i_ hi_; rw [List.mem_singleton] at hm_; omega
 replace ah := ah.le hI.size
 replace hI := hI.fr0 aq
 replace ab := ab.fr0 aq
 replace ad := ad.fr0 aq
 replace aa := aa.fr0 aq
 replace ac := ac.fr0 aq
 clear aq
 refine ⟨trivial, ?_⟩
 refine HSp (R_nilCheck rfl) rfl rfl (HSp (R_fieldAddr fo44_0 rfl) rfl rfl ?_)
 refine Exists.elim (ah.freeze hI) fun cp ar => Exists.elim ar fun cj ar => ?_
 replace hI := ar.1
 have ae := ar.2.1
 have b4 := ar.2.2.2 (Le.refl _)
 have b5 := ah.cap
 replace an := an.up ae.hh
 replace ab := ab.up ae.hh ae (ah.old bm)
 replace au := au.up ae.hh
 replace av := av.up ae.hh
 replace aw := aw.up ae.hh
 replace ad := ad.up ae (ah.old bn)
 replace aa := aa.up ae (ah.old bl)
 replace ax := ax.up ae.hh
 replace ac := ac.up ae (sep_tok az)
 clear ar ae ah
 refine HS_to0 [] _ rfl (by rw [ag]; kernel_rfl) (R_store sz41 rfl rfl aa.blk (by show 0 < 5; decide) rfl) rfl ?_
 rintro _ cq ⟨bg, al⟩
 replace hI := hI.tok al (out1 aa.out) (mem1 (by simp))
 replace ab := ab.fr al (ab.neT aa)
 replace ad := ad.fr al (ad.apart aa (by decide))
 replace ac := ac.fr al (ac.apart aa (by decide))
 replace aa : Tok cj _ d0 46 ([.slice cg (((cut z0.book_.l_ 0 (z0.book_.l_.length : Int)) ++ ([x1] : List journal_record)).length) ci, .map (some d1), .pointer (some ⟨d2, 0, none⟩), vi z0.gen_, vi z0.place_]) := ⟨bg, aa.out⟩
 clear al bg
 refine ⟨trivial, ?_⟩
 refine HS_nil ?_
 clear ag
 refine then_n (k3 _ _ ?_)
 clear k3 K3
 refine W_keepB [0, 3] fun B_ b_ => ?_
 simp only [e_, Nat.reduceAdd, Nat.reduceBEq] at b_
 subst b_
 refine W_drawF [25, 26, 27, 28, 29, 30, 31, 32, 33, 34, 35, none] [(0, true), (1, true), (2, true), (3, true), (4, true), (5, true), (7, true), (8, true), (9, true), (6, false), (10, true), (11, false)] TJtB.hm rfl (by kernel_rfl) fun ck cr ai af => ?_
 replace hI := hI.fr0 af
 replace ab := ab.fr0 af
 replace ad := ad.fr0 af
 replace aa := aa.fr0 af
 replace ac := ac.fr0 af
 clear af
 refine HSp (R_move rfl) rfl rfl (HSp (R_nilCheck rfl) rfl rfl (HSp (R_fieldAddr fo44_1 rfl) rfl rfl ?_))
 refine HS_loadB (v := .map (some d1)) ag42 rfl aa.blk rfl rfl rfl ?_
 refine HSp (R_fieldAddr fo85_0 rfl) rfl rfl ?_
 refine HS_loadB (v := vi x1.label_) ag3 rfl ac.blk rfl rfl rfl ?_
 refine HSp (R_fieldAddr fo85_1 rfl) rfl rfl ?_
 refine HS_loadB (v := .slice a5 x1.data_.length a6) ag29 rfl ac.blk rfl rfl rfl ?_
 refine HSp (R_len Try.underlying29 rfl rfl) rfl rfl ?_
 refine HS_to [8] _ rfl (by rw [ai]; kernel_rfl) (Runs.to (R_lookup (z0 := (0 : Int)) Try.underlying42 Try.underlying3 zv3 rfl rfl ab)) rfl rfl ?_
 rintro _ co ⟨rfl, a4⟩
 replace a4 := a4.symm
 subst a4
 refine ⟨⟨(ac.blk.at_ rfl), trivial⟩, ?_⟩
 have bh := h.1
 replace h := h.2
 refine HSp (R_add rfl rfl (wI bh.1 bh.2)) rfl rfl ?_
 refine HS_to0 [] _ rfl (by rw [ai]; kernel_rfl) (R_mapUpdate (v := (((mget z1 x1.label_).getD 0) + (x1.data_.length : Int))) Try.underlying42 Try.underlying3 rfl rfl rfl rfl ab) rfl ?_
 rintro _ ct ⟨bi, am⟩
 replace hI := hI.tok am (out1 ab.out) (mem1 (by simp))
 replace ad := ad.fr am (ad.neM ab)
 replace aa := aa.fr am (aa.neM ab)
 replace ac := ac.fr am (ac.neM ab)
 replace ab := bi
 clear am bi
 refine ⟨trivial, ?_⟩
 refine HS_nil ?_
 clear ai
 refine ⟨_, rfl, ?_⟩
 exact ⟨(journal_Journal.mk (journal_book.mk ((cut z0.book_.l_ 0 (z0.book_.l_.length : Int)) ++ ([x1] : List journal_record))) z0.gen_ z0.place_), cg, ci, (mput z1 x1.label_ (((mget z1 x1.label_).getD 0) + (x1.data_.length : Int))), _, _, rfl, hI, aa, b5, b4, ab, h⟩

theorem journal_Open_2_ok {G : Gh} {w : World} (hS : St G w) (hg : GL G) {x0 : Int} {x1 : Int} {d0 : Nat} {z0 : List journal_record} {ab : Option Addr} {ac : Nat} (ad : Tok G w d0 41 ([.slice ab z0.length ac])) (au : z0.length ≤ ac) (av : Sl G ab z0) {d1 : Nat} {z1 : Unit} {d2 : Nat} {z2 : journal_Journal} {ah : Option Addr} {ai : Nat} {d3 : Nat} {z3 : List (Int × Int)} (ap : MTok G G w d3 z3) {d4 : Nat} {z4 : disk_Disk} {aj : Option Addr} {ak : Nat} {al : Option Addr} {am : Nat} {an : Option Addr} {ao : Nat} (aq : Tok G w d4 53 ([.slice aj z4.files_.e0_.length ak, .slice al z4.files_.e1_.length am, .slice an z4.files_.e2_.length ao, vi z4.room_, .bool z4.off_, .bool z4.armed_, vi z4.left_])) (aw : z4.files_.e0_.length ≤ ak) (ax : Sl G aj z4.files_.e0_) (ay : z4.files_.e1_.length ≤ am) (az : Sl G al z4.files_.e1_) (a4 : z4.files_.e2_.length ≤ ao) (a5 : Sl G an z4.files_.e2_) (af : Tok G w d2 46 ([.slice ah z2.book_.l_.length ai, .map (some d3), .pointer (some ⟨d4, 0, none⟩), vi z2.gen_, vi z2.place_])) (a6 : z2.book_.l_.length ≤ ai) (a7 : Sl G ah z2.book_.l_) (ag : Tok G w d1 26 ([.pointer (some ⟨d2, 0, none⟩)])) {Q : Int → Bool → Prop} (h : journal_Open_2 x0 x1 z0 z1 z2 z3 z4 Q) : Calls Try.prog 47 #[vi x0, vi x1, .pointer (some ⟨d0, 0, none⟩), .pointer (some ⟨d1, 0, none⟩)] w fun e w2 => ∃ (r0 : Int) (r1 : Bool) (L H : Gh), e = .returned (.tuple #[vi r0, .bool r1]) ∧ Inv [] G w L H w2 ∧ Q r0 r1 := by
 unfold journal_Open_2 at h
 have hI := Inv.start (M := []) hS
 refine calls_W 22 Try.func47 rfl Try.ntmps47 rfl [.tmp 6, .tmp 7] rfl ?_
 have a8 := ad.blk.lt
 have a9 := ag.blk.lt
 have ba := af.blk.lt
 have bc := ap.lt
 have bd := aq.blk.lt
 refine W_seq_k fun K1 k1 => ?_
 refine W_region [6, 7] rfl (Ops_step (R_assign rfl) rfl rfl (Ops_step (R_assign rfl) rfl rfl ?_))
 refine Ops_nil ?_
 refine then_n (k1 _ _ ?_)
 clear k1 K1
 refine W_seq_k fun K2 k2 => ?_
 refine W_drawF [8, 9, 10, 11, 12, 13, 14, 15, 16, 17, 18, 19, 20, 21, 6, 7] [(0, true), (1, true), (2, true), (3, true), (4, true), (5, true), (6, true), (7, true), (8, true), (9, true), (10, true), (11, true), (12, true), (13, true), (14, true), (15, true)] TJtB.hm rfl (by kernel_rfl) fun be bf ae aa => ?_
 replace hI := hI.fr0 aa
 replace ad := ad.fr0 aa
 replace ap := ap.fr0 aa
 replace aq := aq.fr0 aa
 replace af := af.fr0 aa
 replace ag := ag.fr0 aa
 clear aa
 refine HS_loadB (v := .slice ab z0.length ac) ag41 rfl ad.blk rfl rfl rfl ?_
 refine HSp (R_len Try.underlying41 rfl rfl) rfl rfl (HSp (R_move rfl) rfl rfl ?_)
 refine HS_loadB (v := .pointer (some ⟨d2, 0, none⟩)) ag26 rfl ag.blk rfl rfl rfl ?_
 refine HSp (R_nilCheck rfl) rfl rfl (HSp (R_fieldAddr fo46_2 rfl) rfl rfl ?_)
 refine HS_loadB (v := vi z2.gen_) ag3 rfl af.blk rfl rfl rfl ?_
 refine HSp (R_eql rfl rfl) rfl rfl (HSp (R_move rfl) rfl rfl ?_)
 refine HS_split 16 rfl (fun ar => ?_) (fun ar => ?_)
 ·
  replace h := h.1 ar
  refine HSp (R_move rfl) rfl rfl ?_
  refine HS_loadB (v := .slice ab z0.length ac) ag41 rfl ad.blk rfl rfl rfl ?_
  refine HSp (R_len Try.underlying41 rfl rfl) rfl rfl (HSp (R_eql rfl rfl) rfl rfl (HSp (R_pick_true rfl rfl) rfl rfl (HSp (R_assign rfl) rfl rfl (HSp (R_assign rfl) rfl rfl ?_))))
  refine HS_nil ?_
  clear ae
  refine then_n (k2 _ _ ?_)
  clear k2 K2
  refine W_keepB [6, 7] fun B_ b_ => ?_
  simp only [e_, Nat.reduceAdd, Nat.reduceBEq] at b_
  subst b_
  refine W_ret ?_
  refine ⟨_, ⟨_, _, rfl, rfl, ⟨_, _, rfl, rfl, rfl⟩⟩, ?_⟩
  exact ⟨(z0.length : Int), (decide (x1 = (z0.length : Int))), _, _, rfl, hI, h⟩
 ·
  replace h := h.2 ar
  refine HS_pass rfl rfl ?_
  refine HS_pass rfl rfl ?_
  refine HS_pass rfl rfl ?_
  refine HS_pass rfl rfl ?_
  refine HSp (R_pick_false rfl rfl) rfl rfl (HSp (R_assign rfl) rfl rfl (HSp (R_assign rfl) rfl rfl ?_))
  refine HS_nil ?_
  clear ae
  refine then_n (k2 _ _ ?_)
  clear k2 K2
  refine W_keepB [6, 7] fun B_ b_ => ?_
  simp only [e_, Nat.reduceAdd, Nat.reduceBEq] at b_
  subst b_
  refine W_ret ?_
  refine ⟨_, ⟨_, _, rfl, rfl, ⟨_, _, rfl, rfl, rfl⟩⟩, ?_⟩
  exact ⟨(z0.length : Int), false, _, _, rfl, hI, h⟩

theorem journal_opened_v1_ok {G : Gh} {w : World} (hS : St G w) (hg : GL G) {A0 : Option Addr} {c0 : Nat} {x0 : List UInt8} (hc0 : x0.length ≤ c0) (hs0 : Sl G A0 x0) {d0 : Nat} {z0 : List journal_record} {b6 : Option Addr} {b7 : Nat} (ag : Tok G w d0 41 ([.slice b6 z0.length b7])) (eh : z0.length ≤ b7) (aa : Sl G b6 z0) {d1 : Nat} {z1 : Unit} {d2 : Nat} {z2 : journal_Journal} {b8 : Option Addr} {b9 : Nat} {d3 : Nat} {z3 : List (Int × Int)} (ah : MTok G G w d3 z3) {d4 : Nat} {z4 : disk_Disk} {ca : Option Addr} {cb : Nat} {cc : Option Addr} {cd : Nat} {ce : Option Addr} {cf : Nat} (ai : Tok G w d4 53 ([.slice ca z4.files_.e0_.length cb, .slice cc z4.files_.e1_.length cd, .slice ce z4.files_.e2_.length cf, vi z4.room_, .bool z4.off_, .bool z4.armed_, vi z4.left_])) (ei : z4.files_.e0_.length ≤ cb) (ab : Sl G ca z4.files_.e0_) (ej : z4.files_.e1_.length ≤ cd) (ac : Sl G cc z4.files_.e1_) (ek : z4.files_.e2_.length ≤ cf) (ad : Sl G ce z4.files_.e2_) (aj : Tok G w d2 46 ([.slice b8 z2.book_.l_.length b9, .map (some d3), .pointer (some ⟨d4, 0, none⟩), vi z2.gen_, vi z2.place_])) (en : z2.book_.l_.length ≤ b9) (ae : Sl G b8 z2.book_.l_) (ak : Tok G w d1 26 ([.pointer (some ⟨d2, 0, none⟩)])) {Q : Int → Int → (List journal_record) → Bool → Bool → Prop} (h : journal_opened_v1 x0 z0 z1 z2 z3 z4 Q) : Calls Try.prog 45 #[.slice A0 x0.length c0, .func (.func 47) #[] #[.pointer (some ⟨d0, 0, none⟩), .pointer (some ⟨d1, 0, none⟩)]] w fun e w2 => ∃ (r0 : Int) (r1 : Int) (A2 : Option Addr) (c2 : Nat) (r2 : List journal_record) (r3 : Bool) (r4 : Bool) (L H : Gh), e = .returned (.tuple #[vi r0, vi r1, .slice A2 r2.length c2, .bool r3, .bool r4]) ∧ Inv [] G w L H w2 ∧ OwnS w.heap.size 85 L H w2 A2 c2 r2 ∧ Q r0 r1 r2 r3 r4 := by
 unfold journal_opened_v1 at h
 have hI := Inv.start (M := []) hS
 refine calls_W 78 Try.func45 rfl Try.ntmps45 rfl [.tmp 4, .tmp 5, .tmp 6, .tmp 7, .tmp 8] rfl ?_
 have ct := ag.blk.lt
 have cu := ak.blk.lt
 have cv := aj.blk.lt
 have cw := ah.lt
 have cx := ai.blk.lt
 refine W_seq_k fun K1 k1 => ?_
 refine W_region [4, 5, 6, 7, 8] rfl (Ops_step (R_assign rfl) rfl rfl (Ops_step (R_assign rfl) rfl rfl (Ops_step (R_assign rfl) rfl rfl (Ops_step (R_assign rfl) rfl rfl ?_))))
 refine Ops_step (R_assign rfl) rfl rfl ?_
 refine Ops_nil ?_
 refine then_n (k1 _ _ ?_)
 clear k1 K1
 refine W_seq_k fun K2 k2 => ?_
 refine W_region [18, 19, 17, 20, 21, 9, 10] rfl (Ops_step (R_move rfl) rfl rfl ?_)
 refine Ops_call (C_func bd66 rfl) rfl rfl ?_
 refine (octet_All_ok (x0 := x0) hI.st (hg.up hI.le) hc0 hs0 h).mono ?_
 rintro _ ji ⟨gj, gk, eo, fa, jj, jk, rfl, fb, au, h⟩
 refine Exists.elim (hI.call fb (by simp)) fun ij gi => ?_
 have gl := hI.size
 replace hI := gi.1
 have cl := gi.2.1
 have fc := gi.2.2
 clear gi
 replace hs0 := hs0.up cl.hh
 replace aa := aa.up cl.hh
 replace ag := ag.up cl (by simp)
 replace ae := ae.up cl.hh
 replace ah := ah.up cl.hh cl (by simp)
 replace ab := ab.up cl.hh
 replace ac := ac.up cl.hh
 replace ad := ad.up cl.hh
 replace ai := ai.up cl (by simp)
 replace aj := aj.up cl (by simp)
 replace ak := ak.up cl (by simp)
 replace au := OwnS.back au gl fc (Le.refl _)
 clear fb cl fc
 refine ⟨_, rfl, ?_⟩
 refine Exists.elim (au.freeze hI) fun jl e9 => Exists.elim e9 fun jm e9 => ?_
 replace hI := e9.1
 have cm := e9.2.1
 have a6 := e9.2.2.1 (Le.refl _)
 have fd := au.cap
 replace hs0 := hs0.up cm.hh
 replace aa := aa.up cm.hh
 replace ag := ag.up cm (au.old ct)
 replace ae := ae.up cm.hh
 replace ah := ah.up cm.hh cm (au.old cw)
 replace ab := ab.up cm.hh
 replace ac := ac.up cm.hh
 replace ad := ad.up cm.hh
 replace ai := ai.up cm (au.old cx)
 replace aj := aj.up cm (au.old cv)
 replace ak := ak.up cm (au.old cu)
 clear e9 cm au
 refine Ops_step (R_move rfl) rfl rfl ?_
 refine Ops_step (R_extract (v := .slice gj eo.length gk) rfl rfl) rfl rfl ?_
 refine Ops_step (R_extract (v := vi fa) rfl rfl) rfl rfl ?_
 refine Ops_step (R_assign rfl) rfl rfl (Ops_step (R_assign rfl) rfl rfl ?_)
 refine Ops_nil ?_
 refine then_n (k2 _ _ ?_)
 clear k2 K2
 refine W_keepB [0, 1, 6, 9, 10] fun B_ b_ => ?_
 simp only [e_, Nat.reduceAdd, Nat.reduceBEq] at b_
 subst b_
 refine W_seq_k fun K6 k6 => ?_
 refine W_seq_k fun K7 k7 => ?_
 refine W_region [22, 23, 24] rfl (Ops_step (R_move rfl) rfl rfl (Ops_step (R_len Try.underlying67 rfl rfl) rfl rfl (Ops_step (R_eql rfl rfl) rfl rfl ?_)))
 refine Ops_nil ?_
 refine then_n (k7 _ _ ?_)
 clear k7 K7
 refine W_if rfl (fun ep => ?_) (fun ep => ?_)
 ·
  replace h := h.1 ep
  refine W_seq_k fun K9 k9 => ?_
  refine W_region [4, 5, 6, 7, 8] rfl (Ops_step (R_assign rfl) rfl rfl (Ops_step (R_assign rfl) rfl rfl (Ops_step (R_assign rfl) rfl rfl (Ops_step (R_assign rfl) rfl rfl ?_))))
  refine Ops_step (R_assign rfl) rfl rfl ?_
  refine Ops_nil ?_
  refine then_n (k9 _ _ ?_)
  clear k9 K9
  refine W_keepB [4, 5, 6, 7, 8] fun B_ b_ => ?_
  simp only [e_, Nat.reduceAdd, Nat.reduceBEq] at b_
  subst b_
  refine W_ret ?_
  refine then_ret ?_
  clear k6 K6
  refine ⟨_, ⟨_, _, rfl, rfl, ⟨_, _, rfl, rfl, ⟨_, _, rfl, rfl, ⟨_, _, rfl, rfl, ⟨_, _, rfl, rfl, rfl⟩⟩⟩⟩⟩, ?_⟩
  exact ⟨0, 0, none, 0, [], false, false, _, _, rfl, hI, OwnS.nil, h⟩
 ·
  replace h := h.2 ep
  refine W_skip ?_
  refine then_n (k6 _ _ ?_)
  clear k6 K6
  refine W_seq_k fun K11 k11 => ?_
  refine W_region [25, 26, 27, 28, 11] rfl (Ops_step (R_move rfl) rfl rfl ?_)
  refine ex_ h fun gm cg h => ?_
  have fe := ((a6.up hI.sub).atL cg).1
  refine Exists.elim ((a6.up hI.sub).atL cg).2 fun ik bo => Exists.elim bo fun il bo => ?_
  have ff := bo.1
  have fg := bo.2.1
  have cy := bo.2.2
  clear bo
  refine Ops_step (R_indexSl Try.underlying67 sz29 rfl rfl cg.1 cg.lt fe) rfl rfl (Ops_step (R_load ag29 rfl (hI.st _ _ cy)) rfl rfl ?_)
  refine Ops_call (C_func bd67 rfl) rfl rfl ?_
  refine (octet_Read_ok (x0 := gm) hI.st (hg.up hI.le) ff fg h).mono ?_
  rintro _ im ⟨gv, eq, fh, fi, io, ip, rfl, dm, an, ap, co, a7, h⟩
  have et := an
  replace an := Nat.le_trans hI.size an
  refine Exists.elim (hI.call dm (by simp)) fun gw de => ?_
  have gx := hI.size
  replace hI := de.1
  have ax := de.2.1
  have fj := de.2.2
  clear de
  replace hs0 := hs0.up ax.hh
  replace aa := aa.up ax.hh
  replace ag := ag.up ax (by simp)
  replace ae := ae.up ax.hh
  replace ah := ah.up ax.hh ax (by simp)
  replace ab := ab.up ax.hh
  replace ac := ac.up ax.hh
  replace ad := ad.up ax.hh
  replace ai := ai.up ax (by simp)
  replace aj := aj.up ax (by simp)
  replace ak := ak.up ax (by simp)
  replace a6 := a6.up ax.ll
  replace cy := ax.hh _ _ cy
  clear dm ax fj
  refine ⟨_, rfl, ?_⟩
  refine Ops_step (R_assign rfl) rfl rfl ?_
  refine Ops_nil ?_
  refine then_n (k11 _ _ ?_)
  clear k11 K11
  refine W_keepB [0, 1, 6, 9, 10, 11] fun B_ b_ => ?_
  simp only [e_, Nat.reduceAdd, Nat.reduceBEq] at b_
  subst b_
  refine W_seq_k fun K15 k15 => ?_
  refine W_region [29, 30, 31, 32, 4, 5] rfl (Ops_step (R_move rfl) rfl rfl ?_)
  refine Ops_call (C_func bd68 rfl) rfl rfl ?_
  refine (octet_Reader_Within_ok (x1 := 1) (x2 := 1099511627776) (z0 := eq) hI.st (hg.up hI.le) ap co a7 h).mono ?_
  rintro _ iq ⟨dn, eu, fk, fm, ir, it, rfl, dp, aq, cp, a8, h⟩
  refine Exists.elim (hI.call dp (new1 an)) fun gy df => ?_
  have gz := hI.size
  replace hI := df.1
  have ay := df.2.1
  have fo := df.2.2
  clear df
  replace hs0 := hs0.up ay.hh
  replace aa := aa.up ay.hh
  replace ag := ag.up ay (ag.apart ap (by decide))
  replace ae := ae.up ay.hh
  replace ah := ah.up ay.hh ay (ah.neT ap)
  replace ab := ab.up ay.hh
  replace ac := ac.up ay.hh
  replace ad := ad.up ay.hh
  replace ai := ai.up ay (ai.apart ap (by decide))
  replace aj := aj.up ay (aj.apart ap (by decide))
  replace ak := ak.up ay (ak.apart ap (by decide))
  replace a6 := a6.up ay.ll
  replace a7 := a7.up ay.hh
  clear ap
  clear dp ay fo
  refine ⟨_, rfl, ?_⟩
  refine Ops_step (R_move rfl) rfl rfl ?_
  refine Ops_call (C_func bd68 rfl) rfl rfl ?_
  refine (octet_Reader_Within_ok (x1 := 0) (x2 := 1099511627776) (z0 := eu) hI.st (hg.up hI.le) aq cp a8 h).mono ?_
  rintro _ iu ⟨dq, ew, fp, fq, iv, iw, rfl, dr, bt, cq, a9, h⟩
  refine Exists.elim (hI.call dr (new1 an)) fun g6 dg => ?_
  have g7 := hI.size
  replace hI := dg.1
  have az := dg.2.1
  have ft := dg.2.2
  clear dg
  replace hs0 := hs0.up az.hh
  replace aa := aa.up az.hh
  replace ag := ag.up az (ag.apart aq (by decide))
  replace ae := ae.up az.hh
  replace ah := ah.up az.hh az (ah.neT aq)
  replace ab := ab.up az.hh
  replace ac := ac.up az.hh
  replace ad := ad.up az.hh
  replace ai := ai.up az (ai.apart aq (by decide))
  replace aj := aj.up az (aj.apart aq (by decide))
  replace ak := ak.up az (ak.apart aq (by decide))
  replace a6 := a6.up az.ll
  replace a8 := a8.up az.hh
  clear aq
  clear dr az ft
  refine ⟨_, rfl, ?_⟩
  refine Ops_step (R_assign rfl) rfl rfl (Ops_step (R_assign rfl) rfl rfl ?_)
  refine Ops_nil ?_
  refine then_n (k15 _ _ ?_)
  clear k15 K15
  refine W_seq_k fun K18 k18 => ?_
  refine W_seq_k fun K19 k19 => ?_
  refine W_region [33, 34, 35] rfl (Ops_step (R_move rfl) rfl rfl ?_)
  refine Ops_call (C_func bd69 rfl) rfl rfl ?_
  refine (octet_Reader_End_ok (z0 := ew) hI.st (hg.up hI.le) bt cq a9 h).mono ?_
  rintro _ ix ⟨g8, iy, iz, rfl, dt, h⟩
  refine Exists.elim (hI.call dt (by simp)) fun g9 dh => ?_
  have ia := hI.size
  replace hI := dh.1
  have ar := dh.2.1
  have fu := dh.2.2
  clear dh
  replace hs0 := hs0.up ar.hh
  replace aa := aa.up ar.hh
  replace ag := ag.up ar (by simp)
  replace ae := ae.up ar.hh
  replace ah := ah.up ar.hh ar (by simp)
  replace ab := ab.up ar.hh
  replace ac := ac.up ar.hh
  replace ad := ad.up ar.hh
  replace ai := ai.up ar (by simp)
  replace aj := aj.up ar (by simp)
  replace ak := ak.up ar (by simp)
  replace a6 := a6.up ar.ll
  replace bt := bt.up ar (by simp)
  replace a9 := a9.up ar.hh
  clear dt ar fu
  refine ⟨_, rfl, ?_⟩
  refine Ops_step (R_neq rfl rfl) rfl rfl ?_
  refine Ops_nil ?_
  refine then_n (k19 _ _ ?_)
  clear k19 K19
  refine W_keepB [0, 1, 4, 5, 6, 9, 10, 35] fun B_ b_ => ?_
  simp only [e_, Nat.reduceAdd, Nat.reduceBEq] at b_
  subst b_
  refine W_if rfl (fun cz => ?_) (fun cz => ?_)
  ·
   replace h := h.1 cz
   refine W_seq_k fun K23 k23 => ?_
   refine W_region [4, 5, 6, 7, 8] rfl (Ops_step (R_assign rfl) rfl rfl (Ops_step (R_assign rfl) rfl rfl (Ops_step (R_assign rfl) rfl rfl (Ops_step (R_assign rfl) rfl rfl ?_))))
   refine Ops_step (R_assign rfl) rfl rfl ?_
   refine Ops_nil ?_
   refine then_n (k23 _ _ ?_)
   clear k23 K23
   refine W_ret ?_
   refine then_ret ?_
   clear k18 K18
   refine ⟨_, ⟨_, _, rfl, rfl, ⟨_, _, rfl, rfl, ⟨_, _, rfl, rfl, ⟨_, _, rfl, rfl, ⟨_, _, rfl, rfl, rfl⟩⟩⟩⟩⟩, ?_⟩
   exact ⟨0, 0, none, 0, [], false, false, _, _, rfl, hI, OwnS.nil, h⟩
  ·
   replace h := h.2 cz
   refine W_skip ?_
   refine then_n (k18 _ _ ?_)
   clear k18 K18
   refine W_seq_k fun K24 k24 => ?_
   refine W_region [37, 38, 39, 40, 36, 41, 42, 12, 8] rfl (Ops_step (R_move rfl) rfl rfl (Ops_step (R_move rfl) rfl rfl (Ops_step (R_move rfl) rfl rfl ?_)))
   refine Ops_call (C_val bd47 rfl rfl) rfl rfl ?_
   refine (journal_Open_2_ok (x0 := dn) (x1 := dq) (z0 := z0) (z1 := ()) (z2 := z2) (z3 := z3) (z4 := z4) hI.st (hg.up hI.le) ag eh aa ah ai ei ab ej ac ek ad aj en ae ak h).mono ?_
   rintro _ i0 ⟨du, fv, i1, ex, rfl, dv, h⟩
   refine Exists.elim (hI.call dv (by simp)) fun c5 di => ?_
   have ib := hI.size
   replace hI := di.1
   have a4 := di.2.1
   have fw := di.2.2
   clear di
   replace hs0 := hs0.up a4.hh
   replace aa := aa.up a4.hh
   replace ag := ag.up a4 (by simp)
   replace ae := ae.up a4.hh
   replace ah := ah.up a4.hh a4 (by simp)
   replace ab := ab.up a4.hh
   replace ac := ac.up a4.hh
   replace ad := ad.up a4.hh
   replace ai := ai.up a4 (by simp)
   replace aj := aj.up a4 (by simp)
   replace ak := ak.up a4 (by simp)
   replace a6 := a6.up a4.ll
   clear dv a4 fw
   refine ⟨_, rfl, ?_⟩
   refine Ops_step (R_move rfl) rfl rfl ?_
   refine Ops_step (R_extract (v := vi du) rfl rfl) rfl rfl ?_
   refine Ops_step (R_extract (v := .bool fv) rfl rfl) rfl rfl ?_
   refine Ops_step (R_assign rfl) rfl rfl (Ops_step (R_assign rfl) rfl rfl ?_)
   refine Ops_nil ?_
   refine then_n (k24 _ _ ?_)
   clear k24 K24
   refine W_keepB [0, 4, 5, 6, 8, 9, 10, 12] fun B_ b_ => ?_
   simp only [e_, Nat.reduceAdd, Nat.reduceBEq] at b_
   subst b_
   refine W_seq_k fun K27 k27 => ?_
   refine W_seq_k fun K28 k28 => ?_
   refine W_region [43, 44] rfl (Ops_step (R_move rfl) rfl rfl (Ops_step (R_not rfl) rfl rfl ?_))
   refine Ops_nil ?_
   refine then_n (k28 _ _ ?_)
   clear k28 K28
   refine W_cond rfl (fun c6 => ?_) (fun c6 => ?_)
   ·
    replace h := h.1 c6
    refine W_seq_k fun K30 k30 => ?_
    refine W_region [4, 5, 6, 7, 8] rfl (Ops_step (R_assign rfl) rfl rfl (Ops_step (R_assign rfl) rfl rfl (Ops_step (R_assign rfl) rfl rfl (Ops_step (R_assign rfl) rfl rfl ?_))))
    refine Ops_step (R_assign rfl) rfl rfl ?_
    refine Ops_nil ?_
    refine then_n (k30 _ _ ?_)
    clear k30 K30
    refine W_keepB [4, 5, 6, 7, 8] fun B_ b_ => ?_
    simp only [e_, Nat.reduceAdd, Nat.reduceBEq] at b_
    subst b_
    refine W_ret ?_
    refine then_ret ?_
    clear k27 K27
    refine ⟨_, ⟨_, _, rfl, rfl, ⟨_, _, rfl, rfl, ⟨_, _, rfl, rfl, ⟨_, _, rfl, rfl, ⟨_, _, rfl, rfl, rfl⟩⟩⟩⟩⟩, ?_⟩
    exact ⟨0, 0, none, 0, [], false, false, _, _, rfl, hI, OwnS.nil, h⟩
   ·
    replace h := h.2 c6
    refine W_skip ?_
    refine then_n (k27 _ _ ?_)
    clear k27 K27
    refine ex_ h fun gn c7 h => ?_
    refine W_seq_join [0, 10] [4, 5, 6] (fun vals_ w2 => ∃ (bz : Int) (b4 : Int) (bp : List journal_record) (ci : Option Addr) (cj : Nat) (L H : Gh), vals_ = [vi bz, vi b4, .slice ci bp.length cj] ∧ gn bz b4 bp ∧ Inv [] G w L H w2 ∧ Le c5 L ∧ Le ex H ∧ OwnS w.heap.size 85 L H w2 ci cj bp ∧ Tok H w2 d0 41 ([.slice b6 z0.length b7]) ∧ MTok H H w2 d3 z3 ∧ Tok H w2 d4 53 ([.slice ca z4.files_.e0_.length cb, .slice cc z4.files_.e1_.length cd, .slice ce z4.files_.e2_.length cf, vi z4.room_, .bool z4.off_, .bool z4.armed_, vi z4.left_]) ∧ Tok H w2 d2 46 ([.slice b8 z2.book_.l_.length b9, .map (some d3), .pointer (some ⟨d4, 0, none⟩), vi z2.gen_, vi z2.place_]) ∧ Tok H w2 d1 26 ([.pointer (some ⟨d2, 0, none⟩)]) ∧ True) (fun B_ b_ => ?_) (fun B_ b_ => ?_)
    ·
     simp only [e_, Nat.reduceAdd, Nat.reduceBEq] at b_
     subst b_
     clear c7
     have ba := Le.refl c5
     have al := Le.refl ex
     refine W_seq_k fun K33 k33 => ?_
     refine W_region [45, 46, 47, 48] rfl (Ops_step (R_move rfl) rfl rfl ?_)
     have dw := h.1
     replace h := h.2
     refine Exists.elim (cut_ex (n := 1) (l := 1) (h := (eo.length : Int)) (a6.up hI.sub) rfl (by decide) fd (by decide) dw (Int.le_refl _)) fun i2 cr => Exists.elim cr fun i3 cr => ?_
     have dx := cr.1
     have ic := cr.2.1
     have bq := cr.2.2
     clear cr
     refine Ops_step (X_slice (xs := eo) Try.underlying67 sz29 rfl dx fd rfl rfl (by decide) dw (Int.le_refl _)) rfl rfl ?_
     clear dx
     refine Ops_step (R_len Try.underlying67 rfl rfl) rfl rfl (Ops_step (R_move rfl) rfl rfl ?_)
     refine Ops_nil ?_
     refine then_n (k33 _ _ ?_)
     clear k33 K33
     refine W_block ?_
     refine Exists.elim h fun go h => Exists.elim h fun gp h => ?_
     have ie := h.1
     have dy := h.2
     clear h
     refine W_loopB [0, 10, 12, 46, 47] [4, 5, 6, 48] (fun m vals_ w2 => ∃ (bh : Int) (bi : Int) (av : List journal_record) (bj : Option Addr) (bl : Nat) (bm : Int) (L H : Gh), vals_ = [vi bh, vi bi, .slice bj av.length bl, vi bm] ∧ go m bh bi av bm ∧ Inv [] G w L H w2 ∧ Le c5 L ∧ Le ex H ∧ OwnS w.heap.size 85 L H w2 bj bl av ∧ Tok H w2 d0 41 ([.slice b6 z0.length b7]) ∧ MTok H H w2 d3 z3 ∧ Tok H w2 d4 53 ([.slice ca z4.files_.e0_.length cb, .slice cc z4.files_.e1_.length cd, .slice ce z4.files_.e2_.length cf, vi z4.room_, .bool z4.off_, .bool z4.armed_, vi z4.left_]) ∧ Tok H w2 d2 46 ([.slice b8 z2.book_.l_.length b9, .map (some d3), .pointer (some ⟨d4, 0, none⟩), vi z2.gen_, vi z2.place_]) ∧ Tok H w2 d1 26 ([.pointer (some ⟨d2, 0, none⟩)]) ∧ True) gp _ rfl ⟨dn, dq, [], none, 0, 0, _, _, rfl, ie, hI, Le.refl _, Le.refl _, OwnS.nil, ag, ah, ai, aj, ak, trivial⟩ fun B_ b_ => ?_
     clear ie
     simp only [e_, Nat.reduceAdd, Nat.reduceBEq] at b_
     subst b_
     clear ag
     clear ak
     clear aj
     clear ah
     clear ai
     rintro gq _ i4 ⟨bh, bi, av, bj, bl, bm, i5, i6, rfl, dz, d5, bu, am, af, ag, ah, ai, aj, ak, -⟩
     replace hI := d5
     clear d5
     have h := dy gq bh bi av bm dz
     clear dy dz
     replace hs0 := hs0.up am
     replace aa := aa.up am
     replace ae := ae.up am
     replace ab := ab.up am
     replace ac := ac.up am
     replace ad := ad.up am
     replace ba := ba.trans bu
     replace al := al.trans am
     replace bq := bq.up am
     refine W_seq_k fun K37 k37 => ?_
     refine W_region [49] rfl (Ops_step (R_lss rfl rfl) rfl rfl ?_)
     refine Ops_nil ?_
     refine then_n (k37 _ _ ?_)
     clear k37 K37
     refine W_seq_k fun K38 k38 => ?_
     refine W_if rfl (fun c8 => ?_) (fun c8 => ?_)
     ·
      replace h := h.1 c8
      refine W_skip ?_
      refine then_n (k38 _ _ ?_)
      clear k38 K38
      refine W_seq_k fun K40 k40 => ?_
      refine W_block ?_
      refine W_seq_k fun K41 k41 => ?_
      refine W_region [50, 51, 14] rfl ?_
      refine ex_ h fun gr ck h => ?_
      have fx := (bq.atL ck).1
      refine Exists.elim (bq.atL ck).2 fun i7 br => Exists.elim br fun i8 br => ?_
      have fy := br.1
      have f0 := br.2.1
      have f8 := br.2.2
      clear br
      refine Ops_step (R_indexSl Try.underlying67 sz29 rfl rfl ck.1 ck.lt fx) rfl rfl (Ops_step (R_load ag29 rfl (hI.st _ _ f8)) rfl rfl (Ops_step (R_assign rfl) rfl rfl ?_))
      refine Ops_nil ?_
      refine then_n (k41 _ _ ?_)
      clear k41 K41
      refine W_seq_k fun K43 k43 => ?_
      refine W_region [53, 54, 55, 56, 57, 58, 52, 59, 60, 15, none, 16] rfl (Ops_step (R_move rfl) rfl rfl (Ops_step (R_move rfl) rfl rfl (Ops_step (R_move rfl) rfl rfl (Ops_step (R_len Try.underlying41 rfl rfl) rfl rfl ?_))))
      have d6 := h.1
      replace h := h.2
      refine Ops_step (R_add rfl rfl (wI d6.1 d6.2)) rfl rfl ?_
      refine Ops_call (C_func bd70 rfl) rfl rfl ?_
      refine (journal_read_ok (x0 := gr) (x1 := (du + (av.length : Int))) hI.st (hg.up hI.le) fy f0 h).mono ?_
      rintro _ i9 ⟨ig, a5, f9, ja, ey, rfl, d7, b5, h⟩
      refine Exists.elim (hI.call d7 (by simp)) fun ga dj => ?_
      have ii := hI.size
      replace hI := dj.1
      have ao := dj.2.1
      have d8 := dj.2.2
      clear dj
      replace hs0 := hs0.up ao.hh
      replace aa := aa.up ao.hh
      replace ae := ae.up ao.hh
      replace ab := ab.up ao.hh
      replace ac := ac.up ao.hh
      replace ad := ad.up ao.hh
      replace ba := ba.trans ao.ll
      replace al := al.trans ao.hh
      replace bq := bq.up ao.hh
      replace ag := ag.up ao (by simp)
      replace ah := ah.up ao.hh ao (by simp)
      replace ai := ai.up ao (by simp)
      replace aj := aj.up ao (by simp)
      replace ak := ak.up ao (by simp)
      replace af := af.up ao.ll ao (by simp)
      replace bu := bu.trans ao.ll
      replace am := am.trans ao.hh
      replace b5 := Rp.mono d8 b5
      obtain ⟨bf, bg, rfl, ⟨c9, da⟩⟩ := b5
      clear d7 ao d8
      refine ⟨_, rfl, ?_⟩
      refine Ops_step (R_move rfl) rfl rfl ?_
      refine Ops_step (R_extract (v := .agg #[vi a5.label_, .slice bf a5.data_.length bg]) rfl rfl) rfl rfl ?_
      refine Ops_step (R_extract (v := .bool f9) rfl rfl) rfl rfl ?_
      have bv := af.lt
      have ez := hI
      refine Ops_to (R_alloc zr85) rfl rfl ?_
      rintro _ jb ⟨dk, rfl, db, d9, bc⟩
      replace hI := hI.fr0 bc
      replace ag := ag.fr0 bc
      replace ah := ah.fr0 bc
      replace ai := ai.fr0 bc
      replace aj := aj.fr0 bc
      replace ak := ak.fr0 bc
      replace af := af.fr0 bc
      have aw : Tok ey _ dk 85 ([vi 0, .slice none 0 0]) := ⟨d9.to rfl, Out.ge ez.st (Nat.le_of_eq db.symm)⟩
      have dc : w.heap.size ≤ dk := db ▸ ez.size
      have bw : ∀ i_ ∈ bk bj bl, i_ ∉ [dk] := fun i_ hi_ hm_ => by have h_ := bv i_ hi_; rw [List.mem_singleton] at hm_; omega
      clear d9 db ez bc
      refine Ops_to0 (R_storeN sz85 rfl rfl rfl aw.blk (Nat.le_of_ble_eq_true rfl) rfl) rfl ?_
      rintro _ jc ⟨ea, bd⟩
      replace hI := hI.tok bd (out1 aw.out) (new1 dc)
      replace ag := ag.fr bd (ag.apart aw (by decide))
      replace ah := ah.fr bd (ah.neT aw)
      replace ai := ai.fr bd (ai.apart aw (by decide))
      replace aj := aj.fr bd (aj.apart aw (by decide))
      replace ak := ak.fr bd (ak.apart aw (by decide))
      replace af := af.fr bd bw
      replace aw : Tok ey _ dk 85 ([vi a5.label_, .slice bf a5.data_.length bg]) := ⟨ea, aw.out⟩
      clear bd ea
      refine Ops_step (R_assign rfl) rfl rfl ?_
      refine Ops_nil ?_
      refine then_n (k43 _ _ ?_)
      clear k43 K43
      refine W_keepB [0, 4, 5, 6, 10, 12, 15, 16, 46, 47, 48] fun B_ b_ => ?_
      simp only [e_, Nat.reduceAdd, Nat.reduceBEq] at b_
      subst b_
      refine W_seq_k fun K49 k49 => ?_
      refine W_seq_k fun K50 k50 => ?_
      refine W_region [61, 62] rfl (Ops_step (R_move rfl) rfl rfl (Ops_step (R_not rfl) rfl rfl ?_))
      refine Ops_nil ?_
      refine then_n (k50 _ _ ?_)
      clear k50 K50
      refine W_cond rfl (fun dd => ?_) (fun dd => ?_)
      ·
       replace h := h.1 dd
       refine W_seq_k fun K52 k52 => ?_
       refine W_region [63, 64, 65, 4, 5, 6, 7, 8] rfl (Ops_step (R_move rfl) rfl rfl (Ops_step (R_move rfl) rfl rfl (Ops_step (R_move rfl) rfl rfl (Ops_step (R_assign rfl) rfl rfl ?_))))
       refine Ops_step (R_assign rfl) rfl rfl (Ops_step (R_assign rfl) rfl rfl (Ops_step (R_assign rfl) rfl rfl (Ops_step (R_assign rfl) rfl rfl ?_)))
       refine Ops_nil ?_
       refine then_n (k52 _ _ ?_)
       clear k52 K52
       refine W_keepB [4, 5, 6, 7, 8] fun B_ b_ => ?_
       simp only [e_, Nat.reduceAdd, Nat.reduceBEq] at b_
       subst b_
       refine W_ret ?_
       refine then_ret ?_
       clear k49 K49
       refine block_ret ?_
       refine then_ret ?_
       clear k40 K40
       refine then_ret ?_
       refine block_ret ?_
       refine then_ret ?_
       refine ⟨_, ⟨_, _, rfl, rfl, ⟨_, _, rfl, rfl, ⟨_, _, rfl, rfl, ⟨_, _, rfl, rfl, ⟨_, _, rfl, rfl, rfl⟩⟩⟩⟩⟩, ?_⟩
       exact ⟨bh, bi, bj, bl, av, false, true, _, _, rfl, hI, af, h⟩
      ·
       replace h := h.2 dd
       refine W_skip ?_
       refine then_n (k49 _ _ ?_)
       clear k49 K49
       refine W_region [66, 67, 68, 69, 6] rfl (Ops_step (R_move rfl) rfl rfl (Ops_step (R_loadN ag85 sz85 rfl aw.blk (Nat.le_of_ble_eq_true rfl)) rfl rfl ?_))
       have bx := af.lt
       refine Ops_to (R_buildSlice el41 zr85 (by decide) (by decide) rfl rfl) rfl rfl ?_
       rintro _ jd ⟨gb, rfl, gc, eb, be⟩
       have gf : OwnS w.heap.size 85 ga ey _ (some ⟨gb, 0, none⟩) 1 ([a5] : List journal_record) := OwnS.ofBlk (css := [[vi a5.label_, .slice bf a5.data_.length bg]]) hI.st gc eb (.cons ⟨bf, bg, rfl, ⟨c9, da⟩⟩ .nil) rfl (by have := hI.size; omega) (by show 1 ≤ maxLen; decide)
       replace hI := hI.fr0 be
       replace ag := ag.fr0 be
       replace ah := ah.fr0 be
       replace ai := ai.fr0 be
       replace aj := aj.fr0 be
       replace ak := ak.fr0 be
       replace af := af.fr0 be
       clear be eb
       have dl : ∀ i ∈ bk (some ⟨gb, 0, none⟩) 1, i ∉ bk bj bl := sep_new (fun i_ hi_ => by have := (bk_of hi_).1; simp only [blkOf, List.mem_singleton] at this; omega) bx
       have gg := h.1
       replace h := h.2
       refine Ops_to (X_append (α := journal_record) (xs := av) (ys := ([a5] : List journal_record)) el41 rfl rfl af (Srcs.ofOwn Try.underlying41 gf (by decide)) hI.st gg (by decide) hI.size) rfl rfl ?_
       rintro _ je ⟨gt, gu, rfl, gh, bn, e5⟩
       clear e5
       replace hI := hI.tok bn af.out (af.new (Nat.le_refl _))
       replace ag := ag.fr bn (af.old ct)
       replace ah := ah.fr bn (af.old cw)
       replace ai := ai.fr bn (af.old cx)
       replace aj := aj.fr bn (af.old cv)
       replace ak := ak.fr bn (af.old cu)
       clear bn af
       refine Ops_step (R_assign rfl) rfl rfl ?_
       refine Ops_nil ?_
       refine block_n ?_
       refine then_n (k40 _ _ ?_)
       clear k40 K40
       refine W_keepB [0, 4, 5, 6, 10, 12, 46, 47, 48] fun B_ b_ => ?_
       simp only [e_, Nat.reduceAdd, Nat.reduceBEq] at b_
       subst b_
       refine W_region [70, 48] rfl ?_
       have ec := h.1
       replace h := h.2
       refine Ops_step (R_add rfl rfl (wI ec.1 ec.2)) rfl rfl (Ops_step (R_move rfl) rfl rfl ?_)
       refine Ops_nil ?_
       refine then_n ?_
       exact h.elim fun m_ h => ⟨m_, _, h.1, rfl, ⟨bh, bi, (av ++ ([a5] : List journal_record)), gt, gu, (bm + 1), _, _, rfl, h.2, hI, bu, am, gh, ag, ah, ai, aj, ak, trivial⟩, ⟨rfl, rfl, rfl, rfl, rfl, trivial⟩⟩
     ·
      replace h := h.2 c8
      refine W_exit ?_
      refine then_exit ?_
      clear k38 K38
      refine then_exit ?_
      refine block_exit ?_
      refine then_n ?_
      exact ⟨_, rfl, ⟨bh, bi, av, bj, bl, _, _, rfl, h, hI, ba, al, af, ag, ah, ai, aj, ak, trivial⟩, ⟨rfl, rfl, trivial⟩⟩
    ·
     simp only [e_, Nat.reduceAdd, Nat.reduceBEq] at b_
     subst b_
     clear h
     clear ag
     clear ak
     clear aj
     clear ah
     clear ai
     rintro _ jf ⟨bz, b4, bp, ci, cj, jg, jh, rfl, ee, eg, ba, al, e8, ag, ah, ai, aj, ak, -⟩
     replace hI := eg
     clear eg
     have h := c7 bz b4 bp ee
     clear c7 ee
     replace hs0 := hs0.up al
     replace aa := aa.up al
     replace ae := ae.up al
     replace ab := ab.up al
     replace ac := ac.up al
     replace ad := ad.up al
     refine W_seq_k fun K59 k59 => ?_
     refine W_region [71, 72, 73, 74, 75, 76, 77, 4, 5, 6, 7, 8] rfl (Ops_step (R_move rfl) rfl rfl (Ops_step (R_move rfl) rfl rfl (Ops_step (R_move rfl) rfl rfl (Ops_step (R_move rfl) rfl rfl ?_))))
     refine Ops_step (R_move rfl) rfl rfl (Ops_step (R_len Try.underlying29 rfl rfl) rfl rfl (Ops_step (R_eql rfl rfl) rfl rfl (Ops_step (R_assign rfl) rfl rfl (Ops_step (R_assign rfl) rfl rfl ?_))))
     refine Ops_step (R_assign rfl) rfl rfl (Ops_step (R_assign rfl) rfl rfl (Ops_step (R_assign rfl) rfl rfl ?_))
     refine Ops_nil ?_
     refine then_n (k59 _ _ ?_)
     clear k59 K59
     refine W_keepB [4, 5, 6, 7, 8] fun B_ b_ => ?_
     simp only [e_, Nat.reduceAdd, Nat.reduceBEq] at b_
     subst b_
     refine W_ret ?_
     refine ⟨_, ⟨_, _, rfl, rfl, ⟨_, _, rfl, rfl, ⟨_, _, rfl, rfl, ⟨_, _, rfl, rfl, ⟨_, _, rfl, rfl, rfl⟩⟩⟩⟩⟩, ?_⟩
     exact ⟨bz, b4, ci, cj, bp, (decide (fa = (x0.length : Int))), true, _, _, rfl, hI, e8, h⟩

end Go.Proofs.Ytkmljjhjojolcaa

