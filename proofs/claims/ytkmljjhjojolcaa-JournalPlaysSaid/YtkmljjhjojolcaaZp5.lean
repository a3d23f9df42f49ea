/- What is shown of the program on the way to the law. -/
import Derived.Test.YtkmljjhjojolcaaZp1
import Derived.Test.YtkmljjhjojolcaaZp3
import Derived.Test.YtkmljjhjojolcaaZp4
import Derived.Test.YtkmljjhjojolcaaProg
set_option linter.unusedVariables false
set_option linter.unusedSimpArgs false
set_option maxHeartbeats 4000000
namespace Go.Proofs.Ytkmljjhjojolcaa
open Go Go.Sx Go.Lx
namespace TJtA
theorem hm : Try.prog.follows .mixedOrders = true := by kernel_rfl
theorem ag29 : aggB Try.prog 29 = some false := by kernel_rfl
theorem ag3 : aggB Try.prog 3 = some false := by kernel_rfl
theorem ag32 : aggB Try.prog 32 = some false := by kernel_rfl
theorem ag4 : aggB Try.prog 4 = some false := by kernel_rfl
theorem ag5 : aggB Try.prog 5 = some false := by kernel_rfl
theorem bd48 : bodied Try.prog 48 = true := by kernel_rfl
theorem bd67 : bodied Try.prog 67 = true := by kernel_rfl
theorem bd81 : bodied Try.prog 81 = true := by kernel_rfl
theorem bd82 : bodied Try.prog 82 = true := by kernel_rfl
theorem bd83 : bodied Try.prog 83 = true := by kernel_rfl
theorem bd84 : bodied Try.prog 84 = true := by kernel_rfl
theorem bd85 : bodied Try.prog 85 = true := by kernel_rfl
theorem bd89 : bodied Try.prog 89 = true := by kernel_rfl
theorem bd90 : bodied Try.prog 90 = true := by kernel_rfl
theorem bd91 : bodied Try.prog 91 = true := by kernel_rfl
theorem el29 : Elem Try.prog 29 5 1 1 := Elem.of (by kernel_rfl)
theorem fo118_0 : offB Try.prog 118 0 = some 0 := by kernel_rfl
theorem fo118_1 : offB Try.prog 118 1 = some 1 := by kernel_rfl
theorem fo118_2 : offB Try.prog 118 2 = some 2 := by kernel_rfl
theorem fo118_3 : offB Try.prog 118 3 = some 3 := by kernel_rfl
theorem fo120_0 : offB Try.prog 120 0 = some 0 := by kernel_rfl
theorem fo31_3 : offB Try.prog 31 3 = some 3 := by kernel_rfl
theorem fo53_0 : offB Try.prog 53 0 = some 0 := by kernel_rfl
theorem fo53_1 : offB Try.prog 53 1 = some 3 := by kernel_rfl
theorem fo53_2 : offB Try.prog 53 2 = some 4 := by kernel_rfl
theorem pl118 : partPl Try.prog 118 = some [(0, 1), (1, 1), (2, 1), (3, 1)] := by kernel_rfl
theorem pl120 : partPl Try.prog 120 = some [(0, 4)] := by kernel_rfl
theorem pl53 : partPl Try.prog 53 = some [(0, 3), (3, 1), (4, 1), (5, 1), (6, 1)] := by kernel_rfl
theorem sz29 : sz Try.prog 29 = some 1 := by kernel_rfl
theorem sz3 : sz Try.prog 3 = some 1 := by kernel_rfl
theorem sz31 : sz Try.prog 31 = some 4 := by kernel_rfl
theorem sz32 : sz Try.prog 32 = some 1 := by kernel_rfl
theorem sz5 : sz Try.prog 5 = some 1 := by kernel_rfl
theorem zr118 : zr Try.prog 118 = some ([.slice none 0 0] ++ [.int .i64 0] ++ [.int .i64 0] ++ [.bool false]) := by kernel_rfl
theorem zr120 : zr Try.prog 120 = some ([.slice none 0 0] ++ [.int .i64 0] ++ [.int .i64 0] ++ [.bool false]) := by kernel_rfl
theorem zr53 : zr Try.prog 53 = some (List.replicate 3 (.slice none 0 0) ++ [.int .i64 0] ++ [.bool false] ++ [.bool false] ++ [.int .i64 0]) := by kernel_rfl
end TJtA
open TJtA
theorem sealskinlaw06_short_ok {G : Gh} {w : World} (hS : St G w) (hg : GL G) {A0 : Option Addr} {c0 : Nat} {x0 : List sealskinlaw06_Do} (hc0 : x0.length ≤ c0) (hs0 : Sl G A0 x0) {Q : Bool → Prop} (h : sealskinlaw06_short x0 Q) : Calls Try.prog 11 #[.slice A0 x0.length c0] w fun e w2 => ∃ (r0 : Bool) (L H : Gh), e = .returned (.bool r0) ∧ Inv [] G w L H w2 ∧ Q r0 := by
 unfold sealskinlaw06_short at h
 have hI := Inv.start (M := []) hS
 refine calls_W 35 Try.func11 rfl Try.ntmps11 rfl [.tmp 2] rfl ?_
 refine W_seq_k fun K1 k1 => ?_
 refine W_region [2] rfl (Ops_step (R_assign rfl) rfl rfl ?_)
 refine Ops_nil ?_
 refine then_n (k1 _ _ ?_)
 clear k1 K1
 refine W_seq_k fun K2 k2 => ?_
 refine W_region [3] rfl (Ops_step (R_assign rfl) rfl rfl ?_)
 refine Ops_nil ?_
 refine then_n (k2 _ _ ?_)
 clear k2 K2
 refine ex_ h fun bj aq h => ?_
 refine W_seq_join [0] [3] (fun vals_ w2 => ∃ (aj : Int) (L H : Gh), vals_ = [vi aj] ∧ bj aj ∧ Inv [] G w L H w2 ∧ Le Gh.no L ∧ Le G H ∧ True) (fun B_ b_ => ?_) (fun B_ b_ => ?_)
 ·
  simp only [e_, Nat.reduceAdd, Nat.reduceBEq] at b_
  subst b_
  clear aq
  have ac := Le.refl Gh.no
  have aa := Le.refl G
  refine W_seq_k fun K4 k4 => ?_
  refine W_region [4] rfl (Ops_step (R_assign rfl) rfl rfl ?_)
  refine Ops_nil ?_
  refine then_n (k4 _ _ ?_)
  clear k4 K4
  refine W_block ?_
  refine Exists.elim h fun bl h => Exists.elim h fun bm h => ?_
  have bg := h.1
  have aw := h.2
  clear h
  refine W_loopB [0] [3, 4] (fun m vals_ w2 => ∃ (af : Int) (ak : Int) (L H : Gh), vals_ = [vi af, vi ak] ∧ bl m af ak ∧ Inv [] G w L H w2 ∧ Le Gh.no L ∧ Le G H ∧ True) bm _ rfl ⟨0, 0, _, _, rfl, bg, hI, Le.refl _, Le.refl _, trivial⟩ fun B_ b_ => ?_
  clear bg
  simp only [e_, Nat.reduceAdd, Nat.reduceBEq] at b_
  subst b_
  rintro bn _ bq ⟨af, ak, bh, bi, rfl, ax, ay, ag, ae, -⟩
  replace hI := ay
  clear ay
  have h := aw bn af ak ax
  clear aw ax
  replace hs0 := hs0.up ae
  replace ac := ac.trans ag
  replace aa := aa.trans ae
  refine W_seq_k fun K6 k6 => ?_
  refine ex_ h fun bo ar h => ?_
  refine W_seq_join [0, 3, 4] [16] (fun vals_ w2 => ∃ (ah : Bool) (L H : Gh), vals_ = [.bool ah] ∧ bo ah ∧ Inv [] G w L H w2 ∧ Le bh L ∧ Le bi H ∧ True) (fun B_ b_ => ?_) (fun B_ b_ => ?_)
  ·
   simp only [e_, Nat.reduceAdd, Nat.reduceBEq] at b_
   subst b_
   clear ar
   have ad := Le.refl bh
   have ab := Le.refl bi
   refine W_region [5, 6, 7, 8, 9, 10, 11, 12, 13, 14, 15, 16] rfl (Ops_step (R_move rfl) rfl rfl (Ops_step (R_move rfl) rfl rfl (Ops_step (R_len Try.underlying22 rfl rfl) rfl rfl (Ops_step (R_lss rfl rfl) rfl rfl ?_))))
   refine Ops_step (R_move rfl) rfl rfl ?_
   refine Ops_split 9 rfl (fun au => ?_) (fun au => ?_)
   ·
    replace h := h.1 au
    refine Ops_step (R_move rfl) rfl rfl (Ops_step (R_leq rfl rfl) rfl rfl (Ops_step (R_pick_true rfl rfl) rfl rfl (Ops_step (R_move rfl) rfl rfl ?_)))
    refine Ops_split 13 rfl (fun av => ?_) (fun av => ?_)
    ·
     replace h := h.1 av
     refine Ops_step (R_move rfl) rfl rfl (Ops_step (R_leq rfl rfl) rfl rfl (Ops_step (R_pick_true rfl rfl) rfl rfl ?_))
     refine Ops_nil ?_
     refine then_n ?_
     exact ⟨_, rfl, ⟨(decide (af ≤ 16384)), _, _, rfl, h, hI, ad, ab, trivial⟩, ⟨rfl, rfl, rfl, trivial⟩⟩
    ·
     replace h := h.2 av
     refine Ops_pass rfl rfl (Ops_pass rfl rfl (Ops_step (R_pick_false rfl rfl) rfl rfl ?_))
     refine Ops_nil ?_
     refine then_n ?_
     exact ⟨_, rfl, ⟨false, _, _, rfl, h, hI, ad, ab, trivial⟩, ⟨rfl, rfl, rfl, trivial⟩⟩
   ·
    replace h := h.2 au
    refine Ops_pass rfl rfl (Ops_pass rfl rfl (Ops_step (R_pick_false rfl rfl) rfl rfl (Ops_step (R_move rfl) rfl rfl (Ops_pass rfl rfl ?_))))
    refine Ops_pass rfl rfl (Ops_step (R_pick_false rfl rfl) rfl rfl ?_)
    refine Ops_nil ?_
    refine then_n ?_
    exact ⟨_, rfl, ⟨false, _, _, rfl, h, hI, ad, ab, trivial⟩, ⟨rfl, rfl, rfl, trivial⟩⟩
  ·
   simp only [e_, Nat.reduceAdd, Nat.reduceBEq] at b_
   subst b_
   clear h
   rintro _ br ⟨ah, bt, bu, rfl, az, a4, ad, ab, -⟩
   replace hI := a4
   clear a4
   have h := ar ah az
   clear ar az
   replace hs0 := hs0.up ab
   replace ac := ac.trans ad
   replace aa := aa.trans ab
   replace ag := ag.trans ad
   replace ae := ae.trans ab
   refine W_cond rfl (fun al => ?_) (fun al => ?_)
   ·
    replace h := h.1 al
    refine W_skip ?_
    refine then_n (k6 _ _ ?_)
    clear k6 K6
    refine W_seq_k fun K11 k11 => ?_
    refine W_block ?_
    refine W_region [19, 20, 21, 22, 23, 24, 25, 26, 27, 3] rfl (Ops_step (R_move rfl) rfl rfl (Ops_step (R_move rfl) rfl rfl (Ops_step (R_move rfl) rfl rfl ?_)))
    refine ex_ h fun a5 ai h => ?_
    have a6 := (Sl.atN (n := 4) rfl (by decide) hs0 ai).1
    refine Exists.elim (Sl.atN (n := 4) rfl (by decide) hs0 ai).2 fun bp am => ?_
    have a7 := am.1
    have a8 := am.2
    clear am
    refine Ops_step (R_indexSl Try.underlying22 sz31 rfl rfl ai.1 ai.lt a6) rfl rfl ?_
    obtain ⟨a9, ba, rfl, ⟨be, bf⟩⟩ := a7
    refine Ops_step (R_fieldAddr' fo31_3 rfl) rfl rfl ?_
    refine Ops_step (R_load (v := .slice a9 a5.B_.length ba) ag29 rfl (hI.st _ _ (a8 3 _ rfl))) rfl rfl ?_
    refine Ops_step (R_len Try.underlying29 rfl rfl) rfl rfl (Ops_step (R_min rfl rfl _root_.rfl) rfl rfl ?_)
    have ao := h.1
    replace h := h.2
    refine Ops_step (R_add rfl rfl (wI ao.1 ao.2)) rfl rfl (Ops_step (R_assign rfl) rfl rfl ?_)
    refine Ops_nil ?_
    refine block_n ?_
    refine then_n (k11 _ _ ?_)
    clear k11 K11
    refine W_keepB [0, 3, 4] fun B_ b_ => ?_
    simp only [e_, Nat.reduceAdd, Nat.reduceBEq] at b_
    subst b_
    refine W_region [17, 18, 4] rfl (Ops_step (R_move rfl) rfl rfl ?_)
    have ap := h.1
    replace h := h.2
    refine Ops_step (R_add rfl rfl (wI ap.1 ap.2)) rfl rfl (Ops_step (R_assign rfl) rfl rfl ?_)
    refine Ops_nil ?_
    refine then_n ?_
    exact h.elim fun m_ h => ⟨m_, _, h.1, rfl, ⟨(af + (min (a5.B_.length : Int) 16385)), (ak + 1), _, _, rfl, h.2, hI, ag, ae, trivial⟩, ⟨rfl, trivial⟩⟩
   ·
    replace h := h.2 al
    refine W_exit ?_
    refine then_exit ?_
    clear k6 K6
    refine then_exit ?_
    refine block_exit ?_
    refine then_n ?_
    exact ⟨_, rfl, ⟨af, _, _, rfl, h, hI, ac, aa, trivial⟩, ⟨rfl, trivial⟩⟩
 ·
  simp only [e_, Nat.reduceAdd, Nat.reduceBEq] at b_
  subst b_
  clear h
  rintro _ bv ⟨aj, bw, bx, rfl, bc, bd, ac, aa, -⟩
  replace hI := bd
  clear bd
  have h := aq aj bc
  clear aq bc
  replace hs0 := hs0.up aa
  refine W_seq_k fun K16 k16 => ?_
  refine W_region [28, 29, 30, 31, 32, 33, 34, 2] rfl (Ops_step (R_move rfl) rfl rfl (Ops_step (R_len Try.underlying22 rfl rfl) rfl rfl (Ops_step (R_leq rfl rfl) rfl rfl (Ops_step (R_move rfl) rfl rfl ?_))))
  refine Ops_split 31 rfl (fun an => ?_) (fun an => ?_)
  ·
   replace h := h.1 an
   refine Ops_step (R_move rfl) rfl rfl (Ops_step (R_leq rfl rfl) rfl rfl (Ops_step (R_pick_true rfl rfl) rfl rfl (Ops_step (R_assign rfl) rfl rfl ?_)))
   refine Ops_nil ?_
   refine then_n (k16 _ _ ?_)
   clear k16 K16
   refine W_keepB [2] fun B_ b_ => ?_
   simp only [e_, Nat.reduceAdd, Nat.reduceBEq] at b_
   subst b_
   refine W_ret ?_
   refine ⟨_, ⟨_, _, rfl, rfl, rfl⟩, ?_⟩
   exact ⟨(decide (aj ≤ 16784)), _, _, rfl, hI, h⟩
  ·
   replace h := h.2 an
   refine Ops_pass rfl rfl (Ops_pass rfl rfl (Ops_step (R_pick_false rfl rfl) rfl rfl (Ops_step (R_assign rfl) rfl rfl ?_)))
   refine Ops_nil ?_
   refine then_n (k16 _ _ ?_)
   clear k16 K16
   refine W_keepB [2] fun B_ b_ => ?_
   simp only [e_, Nat.reduceAdd, Nat.reduceBEq] at b_
   subst b_
   refine W_ret ?_
   refine ⟨_, ⟨_, _, rfl, rfl, rfl⟩, ?_⟩
   exact ⟨false, _, _, rfl, hI, h⟩

theorem disk_New_ok {G : Gh} {w : World} (hS : St G w) (hg : GL G) {x0 : Int} {Q0 : Int → Prop} {Q1 : Int → disk_Disk → Prop} (h : disk_New x0 Q0 Q1) : Calls Try.prog 24 #[vi x0] w fun e w2 => (∃ (r1 : Int) (L H : Gh), e = .returned (.tuple #[.pointer none, vi r1]) ∧ Inv [] G w L H w2 ∧ Q0 r1) ∨ (∃ (r1 : Int) (o0 : Nat) (y0 : disk_Disk) (ae : Option Addr) (af : Nat) (ag : Option Addr) (ah : Nat) (ai : Option Addr) (aj : Nat) (L H : Gh), e = .returned (.tuple #[.pointer (some ⟨o0, 0, none⟩), vi r1]) ∧ Inv [] G w L H w2 ∧ w.heap.size ≤ o0 ∧ Tok H w2 o0 53 ([.slice ae y0.files_.e0_.length af, .slice ag y0.files_.e1_.length ah, .slice ai y0.files_.e2_.length aj, vi y0.room_, .bool y0.off_, .bool y0.armed_, vi y0.left_]) ∧ y0.files_.e0_.length ≤ af ∧ Sl H ae y0.files_.e0_ ∧ y0.files_.e1_.length ≤ ah ∧ Sl H ag y0.files_.e1_ ∧ y0.files_.e2_.length ≤ aj ∧ Sl H ai y0.files_.e2_ ∧ Q1 r1 y0) := by
 unfold disk_New at h
 have hI := Inv.start (M := []) hS
 refine calls_W 13 Try.func24 rfl Try.ntmps24 rfl [.tmp 2, .tmp 3] rfl ?_
 refine W_seq_k fun K1 k1 => ?_
 refine W_region [2, 3] rfl (Ops_step (R_assign rfl) rfl rfl (Ops_step (R_assign rfl) rfl rfl ?_))
 refine Ops_nil ?_
 refine then_n (k1 _ _ ?_)
 clear k1 K1
 refine W_seq_k fun K2 k2 => ?_
 refine ex_ h fun ax ak h => ?_
 refine W_seq_join [0] [9] (fun vals_ w2 => ∃ (ac : Bool) (L H : Gh), vals_ = [.bool ac] ∧ ax ac ∧ Inv [] G w L H w2 ∧ Le Gh.no L ∧ Le G H ∧ True) (fun B_ b_ => ?_) (fun B_ b_ => ?_)
 ·
  simp only [e_, Nat.reduceAdd, Nat.reduceBEq] at b_
  subst b_
  clear ak
  have aa := Le.refl Gh.no
  have ab := Le.refl G
  refine W_region [4, 5, 6, 7, 8, 9] rfl (Ops_step (R_move rfl) rfl rfl (Ops_step (R_lss rfl rfl) rfl rfl (Ops_step (R_move rfl) rfl rfl ?_)))
  refine Ops_split 6 rfl (fun al => ?_) (fun al => ?_)
  ·
   replace h := h.1 al
   refine Ops_pass rfl rfl (Ops_pass rfl rfl (Ops_step (R_pick_true rfl rfl) rfl rfl ?_))
   refine Ops_nil ?_
   refine then_n ?_
   exact ⟨_, rfl, ⟨true, _, _, rfl, h, hI, aa, ab, trivial⟩, ⟨rfl, trivial⟩⟩
  ·
   replace h := h.2 al
   refine Ops_step (R_move rfl) rfl rfl (Ops_step (R_gtr rfl rfl) rfl rfl (Ops_step (R_pick_false rfl rfl) rfl rfl ?_))
   refine Ops_nil ?_
   refine then_n ?_
   exact ⟨_, rfl, ⟨(decide (x0 > 16777216)), _, _, rfl, h, hI, aa, ab, trivial⟩, ⟨rfl, trivial⟩⟩
 ·
  simp only [e_, Nat.reduceAdd, Nat.reduceBEq] at b_
  subst b_
  clear h
  rintro _ az ⟨ac, a4, ay, rfl, ap, aq, aa, ab, -⟩
  replace hI := aq
  clear aq
  have h := ak ac ap
  clear ak ap
  refine W_cond rfl (fun am => ?_) (fun am => ?_)
  ·
   replace h := h.1 am
   refine W_seq_k fun K6 k6 => ?_
   refine W_region [2, 3] rfl (Ops_step (R_assign rfl) rfl rfl (Ops_step (R_assign rfl) rfl rfl ?_))
   refine Ops_nil ?_
   refine then_n (k6 _ _ ?_)
   clear k6 K6
   refine W_ret ?_
   refine then_ret ?_
   clear k2 K2
   refine ⟨_, ⟨_, _, rfl, rfl, ⟨_, _, rfl, rfl, rfl⟩⟩, ?_⟩
   exact .inl ⟨1, _, _, rfl, hI, h⟩
  ·
   replace h := h.2 am
   refine W_skip ?_
   refine then_n (k2 _ _ ?_)
   clear k2 K2
   refine W_seq_k fun K7 k7 => ?_
   refine W_region [10, 11, 12, 2, 3] rfl (Ops_step (R_move rfl) rfl rfl ?_)
   refine Ops_step (R_build (pl := [(3, 1)]) (cs := [.slice none 0 0, .slice none 0 0, .slice none 0 0, vi x0, .bool false, .bool false, vi 0]) zr53 pl53 rfl rfl rfl) rfl rfl ?_
   have an := hI
   refine Ops_to (R_box rfl) rfl rfl ?_
   rintro _ a5 ⟨av, rfl, ao, ar, au⟩
   replace hI := hI.fr0 au
   have aw : Tok ay _ av 53 ([.slice none 0 0, .slice none 0 0, .slice none 0 0, vi x0, .bool false, .bool false, vi 0]) := ⟨ar.to rfl, Out.ge an.st (Nat.le_of_eq ao.symm)⟩
   have ad : w.heap.size ≤ av := ao ▸ an.size
   clear ar ao an au
   refine Ops_step (R_assign rfl) rfl rfl (Ops_step (R_assign rfl) rfl rfl ?_)
   refine Ops_nil ?_
   refine then_n (k7 _ _ ?_)
   clear k7 K7
   refine W_ret ?_
   refine ⟨_, ⟨_, _, rfl, rfl, ⟨_, _, rfl, rfl, rfl⟩⟩, ?_⟩
   exact .inr ⟨0, av, (disk_Disk.mk (arr3_List_UInt8.mk [] [] []) x0 false false 0), none, 0, none, 0, none, 0, _, _, rfl, hI, ad, aw, (Nat.le_refl 0), Sl.nil, (Nat.le_refl 0), Sl.nil, (Nat.le_refl 0), Sl.nil, h⟩

theorem disk_Disk_able_ok {G : Gh} {w : World} (hS : St G w) (hg : GL G) {d0 : Nat} {z0 : disk_Disk} {ai : Option Addr} {aj : Nat} {ak : Option Addr} {al : Nat} {am : Option Addr} {an : Nat} (ab : Tok G w d0 53 ([.slice ai z0.files_.e0_.length aj, .slice ak z0.files_.e1_.length al, .slice am z0.files_.e2_.length an, vi z0.room_, .bool z0.off_, .bool z0.armed_, vi z0.left_])) (a6 : z0.files_.e0_.length ≤ aj) (ac : Sl G ai z0.files_.e0_) (a7 : z0.files_.e1_.length ≤ al) (ad : Sl G ak z0.files_.e1_) (a8 : z0.files_.e2_.length ≤ an) (ae : Sl G am z0.files_.e2_) {x1 : Int} {Q : Int → Prop} (h : disk_Disk_able z0 x1 Q) : Calls Try.prog 48 #[.pointer (some ⟨d0, 0, none⟩), vi x1] w fun e w2 => ∃ (r0 : Int) (L H : Gh), e = .returned (vi r0) ∧ Inv [] G w L H w2 ∧ Q r0 := by
 unfold disk_Disk_able at h
 have hI := Inv.start (M := []) hS
 refine calls_W 27 Try.func48 rfl Try.ntmps48 rfl [.tmp 4] rfl ?_
 have a9 := ab.blk.lt
 refine W_seq_k fun K1 k1 => ?_
 refine W_region [4] rfl (Ops_step (R_assign rfl) rfl rfl ?_)
 refine Ops_nil ?_
 refine then_n (k1 _ _ ?_)
 clear k1 K1
 refine W_seq_k fun K2 k2 => ?_
 refine W_block ?_
 refine ex_ h fun be ax h => ?_
 refine W_seq_join [0, 1] [5] (fun vals_ w2 => ∃ (ar : Bool) (L H : Gh), vals_ = [.bool ar] ∧ be ar ∧ Inv [] G w L H w2 ∧ Le Gh.no L ∧ Le G H ∧ Tok H w2 d0 53 ([.slice ai z0.files_.e0_.length aj, .slice ak z0.files_.e1_.length al, .slice am z0.files_.e2_.length an, vi z0.room_, .bool z0.off_, .bool z0.armed_, vi z0.left_]) ∧ True) (fun B_ b_ => ?_) (fun B_ b_ => ?_)
 ·
  simp only [e_, Nat.reduceAdd, Nat.reduceBEq] at b_
  subst b_
  clear ax
  have au := Le.refl Gh.no
  have ag := Le.refl G
  refine W_region [6, 7, 8, 9, 10, 11, 12, 13, 14, 5] rfl (Ops_step (R_move rfl) rfl rfl (Ops_step (R_ptrNil Try.underlying25 rfl rfl) rfl rfl (Ops_step (R_move rfl) rfl rfl (Ops_step (R_move rfl) rfl rfl ?_))))
  refine Ops_step (R_nilCheck rfl) rfl rfl (Ops_step (R_fieldAddr fo53_1 rfl) rfl rfl ?_)
  refine Ops_step (R_loadB (v := vi z0.room_) ag3 rfl ab.blk rfl) rfl rfl ?_
  refine Ops_step (R_eql rfl rfl) rfl rfl (Ops_step (R_pick_false rfl rfl) rfl rfl (Ops_step (R_assign rfl) rfl rfl ?_))
  refine Ops_nil ?_
  refine then_n ?_
  exact ⟨_, rfl, ⟨(decide (z0.room_ = 0)), _, _, rfl, h, hI, au, ag, ab, trivial⟩, ⟨rfl, rfl, trivial⟩⟩
 ·
  simp only [e_, Nat.reduceAdd, Nat.reduceBEq] at b_
  subst b_
  clear h
  clear ab
  rintro _ bi ⟨ar, bc, bd, rfl, a4, a5, au, ag, ab, -⟩
  replace hI := a5
  clear a5
  have h := ax ar a4
  clear ax a4
  replace ac := ac.up ag
  replace ad := ad.up ag
  replace ae := ae.up ag
  refine W_cond rfl (fun ay => ?_) (fun ay => ?_)
  ·
   replace h := h.1 ay
   refine W_seq_k fun K5 k5 => ?_
   refine W_region [4] rfl (Ops_step (R_assign rfl) rfl rfl ?_)
   refine Ops_nil ?_
   refine then_n (k5 _ _ ?_)
   clear k5 K5
   refine W_ret ?_
   refine block_ret ?_
   refine then_ret ?_
   clear k2 K2
   refine ⟨_, ⟨_, _, rfl, rfl, rfl⟩, ?_⟩
   exact ⟨6, _, _, rfl, hI, h⟩
  ·
   replace h := h.2 ay
   refine W_seq_k fun K6 k6 => ?_
   refine W_region [16, 17, 18, 19, 15] rfl (Ops_step (R_move rfl) rfl rfl (Ops_step (R_nilCheck rfl) rfl rfl (Ops_step (R_fieldAddr fo53_2 rfl) rfl rfl ?_)))
   refine Ops_step (R_loadB (v := .bool z0.off_) ag4 rfl ab.blk rfl) rfl rfl ?_
   refine Ops_step (R_assign rfl) rfl rfl ?_
   refine Ops_nil ?_
   refine then_n (k6 _ _ ?_)
   clear k6 K6
   refine W_keepB [1, 15] fun B_ b_ => ?_
   simp only [e_, Nat.reduceAdd, Nat.reduceBEq] at b_
   subst b_
   refine W_cond rfl (fun az => ?_) (fun az => ?_)
   ·
    replace h := h.1 az
    refine W_seq_k fun K9 k9 => ?_
    refine W_region [4] rfl (Ops_step (R_assign rfl) rfl rfl ?_)
    refine Ops_nil ?_
    refine then_n (k9 _ _ ?_)
    clear k9 K9
    refine W_ret ?_
    refine block_ret ?_
    refine then_ret ?_
    clear k2 K2
    refine ⟨_, ⟨_, _, rfl, rfl, rfl⟩, ?_⟩
    exact ⟨50, _, _, rfl, hI, h⟩
   ·
    replace h := h.2 az
    refine ex_ h fun ba ao h => ?_
    refine W_seq_join [] [20] (fun vals_ w2 => ∃ (af : Bool) (L H : Gh), vals_ = [.bool af] ∧ ba af ∧ Inv [] G w L H w2 ∧ Le bc L ∧ Le bd H ∧ Tok H w2 d0 53 ([.slice ai z0.files_.e0_.length aj, .slice ak z0.files_.e1_.length al, .slice am z0.files_.e2_.length an, vi z0.room_, .bool z0.off_, .bool z0.armed_, vi z0.left_]) ∧ True) (fun B_ b_ => ?_) (fun B_ b_ => ?_)
    ·
     simp only [e_, Nat.reduceAdd, Nat.reduceBEq] at b_
     subst b_
     clear ao
     have ah := Le.refl bc
     have aa := Le.refl bd
     refine W_region [21, 22, 23, 24, 25, 26, 20] rfl (Ops_step (R_move rfl) rfl rfl (Ops_step (R_lss rfl rfl) rfl rfl (Ops_step (R_move rfl) rfl rfl ?_)))
     refine Ops_split 23 rfl (fun ap => ?_) (fun ap => ?_)
     ·
      replace h := h.1 ap
      refine Ops_pass rfl rfl (Ops_pass rfl rfl (Ops_step (R_pick_true rfl rfl) rfl rfl (Ops_step (R_assign rfl) rfl rfl ?_)))
      refine Ops_nil ?_
      refine then_n ?_
      exact ⟨_, rfl, ⟨true, _, _, rfl, h, hI, ah, aa, ab, trivial⟩, trivial⟩
     ·
      replace h := h.2 ap
      refine Ops_step (R_move rfl) rfl rfl (Ops_step (R_geq rfl rfl) rfl rfl (Ops_step (R_pick_false rfl rfl) rfl rfl (Ops_step (R_assign rfl) rfl rfl ?_)))
      refine Ops_nil ?_
      refine then_n ?_
      exact ⟨_, rfl, ⟨(decide (x1 ≥ 3)), _, _, rfl, h, hI, ah, aa, ab, trivial⟩, trivial⟩
    ·
     simp only [e_, Nat.reduceAdd, Nat.reduceBEq] at b_
     subst b_
     clear h
     clear ab
     rintro _ bf ⟨af, bg, bh, rfl, av, aw, ah, aa, ab, -⟩
     replace hI := aw
     clear aw
     have h := ao af av
     clear ao av
     replace ac := ac.up aa
     replace ad := ad.up aa
     replace ae := ae.up aa
     refine W_cond rfl (fun aq => ?_) (fun aq => ?_)
     ·
      replace h := h.1 aq
      refine W_seq_k fun K13 k13 => ?_
      refine W_region [4] rfl (Ops_step (R_assign rfl) rfl rfl ?_)
      refine Ops_nil ?_
      refine then_n (k13 _ _ ?_)
      clear k13 K13
      refine W_ret ?_
      refine block_ret ?_
      refine then_ret ?_
      clear k2 K2
      refine ⟨_, ⟨_, _, rfl, rfl, rfl⟩, ?_⟩
      exact ⟨51, _, _, rfl, hI, h⟩
     ·
      replace h := h.2 aq
      refine W_skip ?_
      refine block_n ?_
      refine then_n (k2 _ _ ?_)
      clear k2 K2
      refine W_seq_k fun K14 k14 => ?_
      refine W_region [4] rfl (Ops_step (R_assign rfl) rfl rfl ?_)
      refine Ops_nil ?_
      refine then_n (k14 _ _ ?_)
      clear k14 K14
      refine W_ret ?_
      refine ⟨_, ⟨_, _, rfl, rfl, rfl⟩, ?_⟩
      exact ⟨0, _, _, rfl, hI, h⟩

theorem disk_Disk_Read_ok {G : Gh} {w : World} (hS : St G w) (hg : GL G) {d0 : Nat} {z0 : disk_Disk} {ah : Option Addr} {ai : Nat} {aj : Option Addr} {ak : Nat} {al : Option Addr} {am : Nat} (ab : Tok G w d0 53 ([.slice ah z0.files_.e0_.length ai, .slice aj z0.files_.e1_.length ak, .slice al z0.files_.e2_.length am, vi z0.room_, .bool z0.off_, .bool z0.armed_, vi z0.left_])) (au : z0.files_.e0_.length ≤ ai) (ad : Sl G ah z0.files_.e0_) (av : z0.files_.e1_.length ≤ ak) (ae : Sl G aj z0.files_.e1_) (aw : z0.files_.e2_.length ≤ am) (af : Sl G al z0.files_.e2_) {x1 : Int} {Q : (List UInt8) → Int → Prop} (h : disk_Disk_Read z0 x1 Q) : Calls Try.prog 44 #[.pointer (some ⟨d0, 0, none⟩), vi x1] w fun e w2 => ∃ (A0 : Option Addr) (c0 : Nat) (r0 : List UInt8) (r1 : Int) (L H : Gh), e = .returned (.tuple #[.slice A0 r0.length c0, vi r1]) ∧ Inv [] G w L H w2 ∧ OwnS w.heap.size 5 L H w2 A0 c0 r0 ∧ Q r0 r1 := by
 unfold disk_Disk_Read at h
 have hI := Inv.start (M := []) hS
 refine calls_W 21 Try.func44 rfl Try.ntmps44 rfl [.tmp 4, .tmp 5] rfl ?_
 have ag := ab.blk.lt
 refine W_seq_k fun K1 k1 => ?_
 refine W_region [4, 5] rfl (Ops_step (R_assign rfl) rfl rfl (Ops_step (R_assign rfl) rfl rfl ?_))
 refine Ops_nil ?_
 refine then_n (k1 _ _ ?_)
 clear k1 K1
 refine W_seq_k fun K2 k2 => ?_
 refine W_seq_k fun K3 k3 => ?_
 refine W_region [7, 8, 9, 6] rfl (Ops_step (R_move rfl) rfl rfl (Ops_step (R_move rfl) rfl rfl ?_))
 refine Ops_call (C_func bd48 rfl) rfl rfl ?_
 refine (disk_Disk_able_ok (x1 := x1) (z0 := z0) hI.st (hg.up hI.le) ab au ad av ae aw af h).mono ?_
 rintro _ b4 ⟨bh, b5, br, rfl, a5, h⟩
 refine Exists.elim (hI.call a5 (by simp)) fun bt bg => ?_
 have bu := hI.size
 replace hI := bg.1
 have a6 := bg.2.1
 have bi := bg.2.2
 clear bg
 replace ad := ad.up a6.hh
 replace ae := ae.up a6.hh
 replace af := af.up a6.hh
 replace ab := ab.up a6 (by simp)
 clear a5 a6 bi
 refine ⟨_, rfl, ?_⟩
 refine Ops_step (R_assign rfl) rfl rfl ?_
 refine Ops_nil ?_
 refine then_n (k3 _ _ ?_)
 clear k3 K3
 refine W_seq_k fun K5 k5 => ?_
 refine W_region [10, 11] rfl (Ops_step (R_move rfl) rfl rfl (Ops_step (R_neq rfl rfl) rfl rfl ?_))
 refine Ops_nil ?_
 refine then_n (k5 _ _ ?_)
 clear k5 K5
 refine W_keepB [0, 1, 6, 11] fun B_ b_ => ?_
 simp only [e_, Nat.reduceAdd, Nat.reduceBEq] at b_
 subst b_
 refine W_if rfl (fun ax => ?_) (fun ax => ?_)
 ·
  replace h := h.1 ax
  refine W_seq_k fun K8 k8 => ?_
  refine W_region [12, 4, 5] rfl (Ops_step (R_move rfl) rfl rfl (Ops_step (R_assign rfl) rfl rfl (Ops_step (R_assign rfl) rfl rfl ?_)))
  refine Ops_nil ?_
  refine then_n (k8 _ _ ?_)
  clear k8 K8
  refine W_ret ?_
  refine then_ret ?_
  clear k2 K2
  refine ⟨_, ⟨_, _, rfl, rfl, ⟨_, _, rfl, rfl, rfl⟩⟩, ?_⟩
  exact ⟨none, 0, [], bh, _, _, rfl, hI, OwnS.nil, h⟩
 ·
  replace h := h.2 ax
  refine W_skip ?_
  refine then_n (k2 _ _ ?_)
  clear k2 K2
  refine W_seq_k fun K9 k9 => ?_
  refine W_region [13, 14, 15, 16, 17, 18, 19, 20, 4, 5] rfl ?_
  refine Ops_to (R_buildSlice0 el29) rfl rfl ?_
  rintro _ bv ⟨bj, rfl, a7, ar, an⟩
  have aa : OwnS w.heap.size 5 Gh.no br _ (some ⟨bj, 0, none⟩) 0 ([] : List UInt8) := OwnS.ofBlk hI.st a7 ar (all2_sc' _) rfl (by have := hI.size; omega) (by show 0 ≤ maxLen; decide)
  replace hI := hI.fr0 an
  replace ab := ab.fr0 an
  clear an ar
  refine Ops_step (R_move rfl) rfl rfl (Ops_step (R_move rfl) rfl rfl (Ops_step (R_nilCheck rfl) rfl rfl (Ops_step (R_fieldAddr fo53_0 rfl) rfl rfl ?_)))
  have a8 := h.1
  replace h := h.2
  refine split3 a8 (fun ac => ?_) (fun ac => ?_) (fun ac => ?_)
  ·
   replace h := h.1 ac
   refine Ops_step (R_indexArrK Try.underlying51 sz29 rfl rfl ac (by decide)) rfl rfl ?_
   refine Ops_step (R_loadB (v := .slice ah z0.files_.e0_.length ai) ag29 rfl ab.blk rfl) rfl rfl ?_
   have a9 := h.1
   replace h := h.2
   refine Ops_to (X_append (α := UInt8) (xs := ([] : List UInt8)) (ys := z0.files_.e0_) el29 rfl rfl aa (Srcs.sc (Srcs.ofSl Try.underlying29 ad hI.st (by decide))) hI.st a9 (by decide) hI.size) rfl rfl ?_
   rintro _ bw ⟨bl, bm, rfl, ba, ao, ay⟩
   clear ay
   replace hI := hI.tok ao aa.out (aa.new (Nat.le_refl _))
   replace ab := ab.fr ao (aa.old ag)
   clear ao aa
   refine Ops_step (R_assign rfl) rfl rfl (Ops_step (R_assign rfl) rfl rfl ?_)
   refine Ops_nil ?_
   refine then_n (k9 _ _ ?_)
   clear k9 K9
   refine W_keepB [4, 5] fun B_ b_ => ?_
   simp only [e_, Nat.reduceAdd, Nat.reduceBEq] at b_
   subst b_
   refine W_ret ?_
   refine ⟨_, ⟨_, _, rfl, rfl, ⟨_, _, rfl, rfl, rfl⟩⟩, ?_⟩
   exact ⟨bl, bm, (([] : List UInt8) ++ z0.files_.e0_), 0, _, _, rfl, hI, (ba.hl (Le.no _)), h⟩
  ·
   replace h := h.2.1 ac
   refine Ops_step (R_indexArrK Try.underlying51 sz29 rfl rfl ac (by decide)) rfl rfl ?_
   refine Ops_step (R_loadB (v := .slice aj z0.files_.e1_.length ak) ag29 rfl ab.blk rfl) rfl rfl ?_
   have bc := h.1
   replace h := h.2
   refine Ops_to (X_append (α := UInt8) (xs := ([] : List UInt8)) (ys := z0.files_.e1_) el29 rfl rfl aa (Srcs.sc (Srcs.ofSl Try.underlying29 ae hI.st (by decide))) hI.st bc (by decide) hI.size) rfl rfl ?_
   rintro _ bx ⟨bn, bo, rfl, bd, ap, az⟩
   clear az
   replace hI := hI.tok ap aa.out (aa.new (Nat.le_refl _))
   replace ab := ab.fr ap (aa.old ag)
   clear ap aa
   refine Ops_step (R_assign rfl) rfl rfl (Ops_step (R_assign rfl) rfl rfl ?_)
   refine Ops_nil ?_
   refine then_n (k9 _ _ ?_)
   clear k9 K9
   refine W_keepB [4, 5] fun B_ b_ => ?_
   simp only [e_, Nat.reduceAdd, Nat.reduceBEq] at b_
   subst b_
   refine W_ret ?_
   refine ⟨_, ⟨_, _, rfl, rfl, ⟨_, _, rfl, rfl, rfl⟩⟩, ?_⟩
   exact ⟨bn, bo, (([] : List UInt8) ++ z0.files_.e1_), 0, _, _, rfl, hI, (bd.hl (Le.no _)), h⟩
  ·
   replace h := h.2.2 ac
   refine Ops_step (R_indexArrK Try.underlying51 sz29 rfl rfl ac (by decide)) rfl rfl ?_
   refine Ops_step (R_loadB (v := .slice al z0.files_.e2_.length am) ag29 rfl ab.blk rfl) rfl rfl ?_
   have be := h.1
   replace h := h.2
   refine Ops_to (X_append (α := UInt8) (xs := ([] : List UInt8)) (ys := z0.files_.e2_) el29 rfl rfl aa (Srcs.sc (Srcs.ofSl Try.underlying29 af hI.st (by decide))) hI.st be (by decide) hI.size) rfl rfl ?_
   rintro _ bz ⟨bp, bq, rfl, bf, aq, a4⟩
   clear a4
   replace hI := hI.tok aq aa.out (aa.new (Nat.le_refl _))
   replace ab := ab.fr aq (aa.old ag)
   clear aq aa
   refine Ops_step (R_assign rfl) rfl rfl (Ops_step (R_assign rfl) rfl rfl ?_)
   refine Ops_nil ?_
   refine then_n (k9 _ _ ?_)
   clear k9 K9
   refine W_keepB [4, 5] fun B_ b_ => ?_
   simp only [e_, Nat.reduceAdd, Nat.reduceBEq] at b_
   subst b_
   refine W_ret ?_
   refine ⟨_, ⟨_, _, rfl, rfl, ⟨_, _, rfl, rfl, rfl⟩⟩, ?_⟩
   exact ⟨bp, bq, (([] : List UInt8) ++ z0.files_.e2_), 0, _, _, rfl, hI, (bf.hl (Le.no _)), h⟩

theorem octet_Read_ok {G : Gh} {w : World} (hS : St G w) (hg : GL G) {A0 : Option Addr} {c0 : Nat} {x0 : List UInt8} (hc0 : x0.length ≤ c0) (hs0 : Sl G A0 x0) {Q : octet_Reader → Prop} (h : octet_Read x0 Q) : Calls Try.prog 67 #[.slice A0 x0.length c0] w fun e w2 => ∃ (o0 : Nat) (y0 : octet_Reader) (ac : Option Addr) (ad : Nat) (L H : Gh), e = .returned (.pointer (some ⟨o0, 0, none⟩)) ∧ Inv [] G w L H w2 ∧ w.heap.size ≤ o0 ∧ Tok H w2 o0 120 ([.slice ac y0.source_.b_.length ad, vi y0.source_.at_, vi y0.source_.err_, .bool y0.source_.made_]) ∧ y0.source_.b_.length ≤ ad ∧ Sl H ac y0.source_.b_ ∧ Q y0 := by
 unfold octet_Read at h
 have hI := Inv.start (M := []) hS
 refine calls_W 9 Try.func67 rfl Try.ntmps67 rfl [.tmp 2] rfl ?_
 refine W_seq_k fun K1 k1 => ?_
 refine W_region [2] rfl (Ops_step (R_assign rfl) rfl rfl ?_)
 refine Ops_nil ?_
 refine then_n (k1 _ _ ?_)
 clear k1 K1
 refine W_seq_k fun K2 k2 => ?_
 refine W_region [3, 4, 5, 6, 7, 8, 2] rfl ?_
 refine Ops_to (R_buildSlice0 el29) rfl rfl ?_
 rintro _ a5 ⟨ay, rfl, aq, ai, aj⟩
 have aa : OwnS w.heap.size 5 Gh.no G _ (some ⟨ay, 0, none⟩) 0 ([] : List UInt8) := OwnS.ofBlk hI.st aq ai (all2_sc' _) rfl (by have := hI.size; omega) (by show 0 ≤ maxLen; decide)
 replace hI := hI.fr0 aj
 clear aj ai
 refine Ops_step (R_move rfl) rfl rfl ?_
 have ar := h.1
 replace h := h.2
 refine Ops_to (X_append (α := UInt8) (xs := ([] : List UInt8)) (ys := x0) el29 rfl rfl aa (Srcs.sc (Srcs.ofSl Try.underlying29 hs0 hI.st (by decide))) hI.st ar (by decide) hI.size) rfl rfl ?_
 rintro _ a6 ⟨ao, ap, rfl, ae, ak, al⟩
 clear al
 replace hI := hI.tok ak aa.out (aa.new (Nat.le_refl _))
 clear ak aa
 refine Exists.elim (ae.freeze hI) fun a7 ah => Exists.elim ah fun az ah => ?_
 replace hI := ah.1
 have a4 := ah.2.1
 have au := ah.2.2.1 (Le.no _)
 have av := ae.cap
 clear ah a4 ae
 refine Ops_step (R_build (pl := [(0, 1), (3, 1)]) (cs := [.slice ao ((([] : List UInt8) ++ x0).length) ap, vi 0, vi 0, .bool true]) zr118 pl118 rfl rfl rfl) rfl rfl ?_
 refine Ops_step (R_build (pl := [(0, 4)]) (cs := [.slice ao ((([] : List UInt8) ++ x0).length) ap, vi 0, vi 0, .bool true]) zr120 pl120 rfl rfl rfl) rfl rfl ?_
 have af := hI
 refine Ops_to (R_box rfl) rfl rfl ?_
 rintro _ a8 ⟨aw, rfl, ag, am, an⟩
 replace hI := hI.fr0 an
 have ax : Tok az _ aw 120 ([.slice ao ((([] : List UInt8) ++ x0).length) ap, vi 0, vi 0, .bool true]) := ⟨am.to rfl, Out.ge af.st (Nat.le_of_eq ag.symm)⟩
 have ab : w.heap.size ≤ aw := ag ▸ af.size
 clear am ag af an
 refine Ops_step (R_assign rfl) rfl rfl ?_
 refine Ops_nil ?_
 refine then_n (k2 _ _ ?_)
 clear k2 K2
 refine W_keepB [2] fun B_ b_ => ?_
 simp only [e_, Nat.reduceAdd, Nat.reduceBEq] at b_
 subst b_
 refine W_ret ?_
 refine ⟨_, ⟨_, _, rfl, rfl, rfl⟩, ?_⟩
 exact ⟨aw, (octet_Reader.mk (octet_source.mk (([] : List UInt8) ++ x0) 0 0 true)), ao, ap, _, _, rfl, hI, ab, ax, av, (au.up hI.sub), h⟩

theorem octet_Reader_dead_ok {G : Gh} {w : World} (hS : St G w) (hg : GL G) {d0 : Nat} {z0 : octet_Reader} {aa : Option Addr} {ab : Nat} (ac : Tok G w d0 120 ([.slice aa z0.source_.b_.length ab, vi z0.source_.at_, vi z0.source_.err_, .bool z0.source_.made_])) (ad : z0.source_.b_.length ≤ ab) (ae : Sl G aa z0.source_.b_) {Q : Bool → Prop} (h : octet_Reader_dead z0 Q) : Calls Try.prog 81 #[.pointer (some ⟨d0, 0, none⟩)] w fun e w2 => ∃ (r0 : Bool) (L H : Gh), e = .returned (.bool r0) ∧ Inv [] G w L H w2 ∧ Q r0 := by
 unfold octet_Reader_dead at h
 have hI := Inv.start (M := []) hS
 refine calls_W 13 Try.func81 rfl Try.ntmps81 rfl [.tmp 2] rfl ?_
 have af := ac.blk.lt
 refine W_seq_k fun K1 k1 => ?_
 refine W_region [2] rfl (Ops_step (R_assign rfl) rfl rfl ?_)
 refine Ops_nil ?_
 refine then_n (k1 _ _ ?_)
 clear k1 K1
 refine W_seq_k fun K2 k2 => ?_
 refine W_region [3, 4, 5, 6, 7, 8, 9, 10, 11, 12, 2] rfl (Ops_step (R_move rfl) rfl rfl (Ops_step (R_ptrNil Try.underlying103 rfl rfl) rfl rfl (Ops_step (R_move rfl) rfl rfl (Ops_step (R_move rfl) rfl rfl ?_))))
 refine Ops_step (R_nilCheck rfl) rfl rfl (Ops_step (R_fieldAddr fo120_0 rfl) rfl rfl (Ops_step (R_fieldAddr fo118_3 rfl) rfl rfl ?_))
 refine Ops_step (R_loadB (v := .bool z0.source_.made_) ag4 rfl ac.blk rfl) rfl rfl ?_
 refine Ops_step (R_not rfl) rfl rfl (Ops_step (R_pick_false rfl rfl) rfl rfl (Ops_step (R_assign rfl) rfl rfl ?_))
 refine Ops_nil ?_
 refine then_n (k2 _ _ ?_)
 clear k2 K2
 refine W_keepB [2] fun B_ b_ => ?_
 simp only [e_, Nat.reduceAdd, Nat.reduceBEq] at b_
 subst b_
 refine W_ret ?_
 refine ⟨_, ⟨_, _, rfl, rfl, rfl⟩, ?_⟩
 exact ⟨(!z0.source_.made_), _, _, rfl, hI, h⟩

theorem octet_source_take_ok {G : Gh} {w : World} (hS : St G w) (hg : GL G) {d0 : Nat} {z0 : octet_source} {ab : Option Addr} {ac : Nat} (aa : Tok G w d0 120 ([.slice ab z0.b_.length ac, vi z0.at_, vi z0.err_, .bool z0.made_])) (ad : z0.b_.length ≤ ac) (ae : Sl G ab z0.b_) {x1 : Int} {Q : (List UInt8) → octet_source → Prop} (h : octet_source_take z0 x1 Q) : Calls Try.prog 91 #[.pointer (some ⟨d0, 0, none⟩), vi x1] w fun e w2 => ∃ (A0 : Option Addr) (c0 : Nat) (r0 : List UInt8) (y0 : octet_source) (al : Option Addr) (am : Nat) (L H : Gh), e = .returned (.slice A0 r0.length c0) ∧ Inv [d0] G w L H w2 ∧ r0.length ≤ c0 ∧ Sl H A0 r0 ∧ Tok H w2 d0 120 ([.slice al y0.b_.length am, vi y0.at_, vi y0.err_, .bool y0.made_]) ∧ y0.b_.length ≤ am ∧ Sl H al y0.b_ ∧ Q r0 y0 := by
 unfold octet_source_take at h
 have hI := Inv.start (M := [d0]) hS
 refine calls_W 48 Try.func91 rfl Try.ntmps91 rfl [.tmp 4] rfl ?_
 have a7 := aa.blk.lt
 refine W_seq_k fun K1 k1 => ?_
 refine W_region [4] rfl (Ops_step (R_assign rfl) rfl rfl ?_)
 refine Ops_nil ?_
 refine then_n (k1 _ _ ?_)
 clear k1 K1
 refine W_seq_k fun K2 k2 => ?_
 refine W_seq_k fun K3 k3 => ?_
 refine W_region [5, 6, 7, 8, 9] rfl (Ops_step (R_move rfl) rfl rfl (Ops_step (R_nilCheck rfl) rfl rfl (Ops_step (R_fieldAddr fo118_2 rfl) rfl rfl ?_)))
 refine Ops_step (R_loadB (v := vi z0.err_) ag32 rfl aa.blk rfl) rfl rfl ?_
 refine Ops_step (R_neq rfl rfl) rfl rfl ?_
 refine Ops_nil ?_
 refine then_n (k3 _ _ ?_)
 clear k3 K3
 refine W_if rfl (fun a4 => ?_) (fun a4 => ?_)
 ·
  replace h := h.1 a4
  refine W_seq_k fun K5 k5 => ?_
  refine W_region [4] rfl (Ops_step (R_assign rfl) rfl rfl ?_)
  refine Ops_nil ?_
  refine then_n (k5 _ _ ?_)
  clear k5 K5
  refine W_keepB [4] fun B_ b_ => ?_
  simp only [e_, Nat.reduceAdd, Nat.reduceBEq] at b_
  subst b_
  refine W_ret ?_
  refine then_ret ?_
  clear k2 K2
  refine ⟨_, ⟨_, _, rfl, rfl, rfl⟩, ?_⟩
  exact ⟨none, 0, [], z0, ab, ac, _, _, rfl, hI, (Nat.le_refl 0), Sl.nil, aa, ad, ae, h⟩
 ·
  replace h := h.2 a4
  refine W_skip ?_
  refine then_n (k2 _ _ ?_)
  clear k2 K2
  refine W_keepB [0, 1] fun B_ b_ => ?_
  simp only [e_, Nat.reduceAdd, Nat.reduceBEq] at b_
  subst b_
  refine W_seq_k fun K8 k8 => ?_
  refine W_seq_k fun K9 k9 => ?_
  refine W_drawF [10, 11, 12, 13, 14, 15, 16, 17, 18, 19, 20, 21] [(0, true), (1, true), (2, true), (3, true), (4, true), (5, true), (6, true), (7, true), (8, true), (9, true), (10, true), (11, true)] TJtA.hm rfl (by kernel_rfl) fun a8 bd aj ag => ?_
  replace hI := hI.fr0 ag
  replace aa := aa.fr0 ag
  clear ag
  refine HSp (R_move rfl) rfl rfl (HSp (R_move rfl) rfl rfl (HSp (R_nilCheck rfl) rfl rfl (HSp (R_fieldAddr fo118_0 rfl) rfl rfl ?_)))
  refine HS_loadB (v := .slice ab z0.b_.length ac) ag29 rfl aa.blk rfl rfl rfl ?_
  refine HSp (R_len Try.underlying29 rfl rfl) rfl rfl (HSp (R_move rfl) rfl rfl (HSp (R_nilCheck rfl) rfl rfl (HSp (R_fieldAddr fo118_1 rfl) rfl rfl ?_)))
  refine HS_loadB (v := vi z0.at_) ag3 rfl aa.blk rfl rfl rfl ?_
  have an := h.1
  replace h := h.2
  refine HSp (R_sub rfl rfl (wI an.1 an.2)) rfl rfl (HSp (R_gtr rfl rfl) rfl rfl ?_)
  refine HS_nil ?_
  clear aj
  refine then_n (k9 _ _ ?_)
  clear k9 K9
  refine W_keepB [0, 1, 21] fun B_ b_ => ?_
  simp only [e_, Nat.reduceAdd, Nat.reduceBEq] at b_
  subst b_
  refine W_if rfl (fun ah => ?_) (fun ah => ?_)
  ·
   replace h := h.1 ah
   refine W_seq_k fun K14 k14 => ?_
   refine W_region [22, 23, 24, none] rfl (Ops_step (R_move rfl) rfl rfl (Ops_step (R_nilCheck rfl) rfl rfl (Ops_step (R_fieldAddr fo118_2 rfl) rfl rfl ?_)))
   refine Ops_to0 (R_store sz32 rfl rfl aa.blk (by show 2 < 4; decide) rfl) rfl ?_
   rintro _ be ⟨ao, ap⟩
   replace hI := hI.tok ap (out1 aa.out) (mem1 (by simp))
   replace aa : Tok G _ d0 120 ([.slice ab z0.b_.length ac, vi z0.at_, vi 2, .bool z0.made_]) := ⟨ao, aa.out⟩
   clear ap ao
   refine Ops_nil ?_
   refine then_n (k14 _ _ ?_)
   clear k14 K14
   refine W_keepB [] fun B_ b_ => ?_
   simp only [e_, Nat.reduceAdd, Nat.reduceBEq] at b_
   subst b_
   refine W_seq_k fun K17 k17 => ?_
   refine W_region [4] rfl (Ops_step (R_assign rfl) rfl rfl ?_)
   refine Ops_nil ?_
   refine then_n (k17 _ _ ?_)
   clear k17 K17
   refine W_ret ?_
   refine then_ret ?_
   clear k8 K8
   refine ⟨_, ⟨_, _, rfl, rfl, rfl⟩, ?_⟩
   exact ⟨none, 0, [], (octet_source.mk z0.b_ z0.at_ 2 z0.made_), ab, ac, _, _, rfl, hI, (Nat.le_refl 0), Sl.nil, aa, ad, ae, h⟩
  ·
   replace h := h.2 ah
   refine W_skip ?_
   refine then_n (k8 _ _ ?_)
   clear k8 K8
   refine W_seq_k fun K18 k18 => ?_
   refine W_region [25, 26, 27, 28, 29, 30, 31, 32, none] rfl (Ops_step (R_move rfl) rfl rfl (Ops_step (R_nilCheck rfl) rfl rfl (Ops_step (R_fieldAddr fo118_1 rfl) rfl rfl ?_)))
   refine Ops_step (R_loadB (v := vi z0.at_) ag3 rfl aa.blk rfl) rfl rfl ?_
   refine Ops_step (R_move rfl) rfl rfl ?_
   have aq := h.1
   replace h := h.2
   refine Ops_step (R_add rfl rfl (wI aq.1 aq.2)) rfl rfl (Ops_step (R_nilCheck rfl) rfl rfl (Ops_step (R_fieldAddr fo118_1 rfl) rfl rfl ?_))
   refine Ops_to0 (R_store sz3 rfl rfl aa.blk (by show 1 < 4; decide) rfl) rfl ?_
   rintro _ bf ⟨ar, au⟩
   replace hI := hI.tok au (out1 aa.out) (mem1 (by simp))
   replace aa : Tok G _ d0 120 ([.slice ab z0.b_.length ac, vi (z0.at_ + x1), vi z0.err_, .bool z0.made_]) := ⟨ar, aa.out⟩
   clear au ar
   refine Ops_nil ?_
   refine then_n (k18 _ _ ?_)
   clear k18 K18
   refine W_keepB [0, 1] fun B_ b_ => ?_
   simp only [e_, Nat.reduceAdd, Nat.reduceBEq] at b_
   subst b_
   refine W_seq_k fun K22 k22 => ?_
   refine W_drawF [33, 34, 35, 36, 37, 38, 39, 40, 41, 42, 43, 44, 45, 46, 47, 4] [(0, true), (1, true), (2, true), (3, true), (4, true), (5, true), (6, true), (7, true), (8, true), (9, true), (10, true), (11, true), (12, true), (13, true), (14, true), (15, true)] TJtA.hm rfl (by kernel_rfl) fun a9 bg ak ai => ?_
   replace hI := hI.fr0 ai
   replace aa := aa.fr0 ai
   clear ai
   refine HSp (R_move rfl) rfl rfl (HSp (R_nilCheck rfl) rfl rfl (HSp (R_fieldAddr fo118_0 rfl) rfl rfl ?_))
   refine HS_loadB (v := .slice ab z0.b_.length ac) ag29 rfl aa.blk rfl rfl rfl ?_
   refine HSp (R_move rfl) rfl rfl (HSp (R_nilCheck rfl) rfl rfl (HSp (R_fieldAddr fo118_1 rfl) rfl rfl ?_))
   refine HS_loadB (v := vi (z0.at_ + x1)) ag3 rfl aa.blk rfl rfl rfl ?_
   refine HSp (R_move rfl) rfl rfl ?_
   have av := h.1
   replace h := h.2
   refine HSp (R_sub rfl rfl (wI av.1 av.2)) rfl rfl (HSp (R_move rfl) rfl rfl (HSp (R_nilCheck rfl) rfl rfl (HSp (R_fieldAddr fo118_1 rfl) rfl rfl ?_)))
   refine HS_loadB (v := vi (z0.at_ + x1)) ag3 rfl aa.blk rfl rfl rfl ?_
   have aw := h.1
   replace h := h.2
   have ax := h.1
   replace h := h.2
   have ay := h.1
   replace h := h.2
   refine Exists.elim (cut_ex (n := 1) (l := ((z0.at_ + x1) - x1)) (h := (z0.at_ + x1)) ae rfl (by decide) ad aw ax ay) fun ba af => Exists.elim af fun bc af => ?_
   have az := af.1
   have a5 := af.2.1
   have a6 := af.2.2
   clear af
   refine HSp (X_slice (xs := z0.b_) Try.underlying29 sz5 rfl az ad rfl rfl aw ax ay) rfl rfl ?_
   clear az
   refine HSp (R_assign rfl) rfl rfl ?_
   refine HS_nil ?_
   clear ak
   refine then_n (k22 _ _ ?_)
   clear k22 K22
   refine W_keepB [4] fun B_ b_ => ?_
   simp only [e_, Nat.reduceAdd, Nat.reduceBEq] at b_
   subst b_
   refine W_ret ?_
   refine ⟨_, ⟨_, _, rfl, rfl, rfl⟩, ?_⟩
   exact ⟨ba, bc, (cut z0.b_ ((z0.at_ + x1) - x1) (z0.at_ + x1)), (octet_source.mk z0.b_ (z0.at_ + x1) z0.err_ z0.made_), ab, ac, _, _, rfl, hI, a5, a6, aa, ad, ae, h⟩

theorem octet_Reader_Number_ok {G : Gh} {w : World} (hS : St G w) (hg : GL G) {d0 : Nat} {z0 : octet_Reader} {ar : Option Addr} {au : Nat} (ao : Tok G w d0 120 ([.slice ar z0.source_.b_.length au, vi z0.source_.at_, vi z0.source_.err_, .bool z0.source_.made_])) (ap : z0.source_.b_.length ≤ au) (af : Sl G ar z0.source_.b_) {Q : Int → octet_Reader → Prop} (h : octet_Reader_Number z0 Q) : Calls Try.prog 82 #[.pointer (some ⟨d0, 0, none⟩)] w fun e w2 => ∃ (r0 : Int) (y0 : octet_Reader) (az : Option Addr) (a4 : Nat) (L H : Gh), e = .returned (vi r0) ∧ Inv [d0] G w L H w2 ∧ Tok H w2 d0 120 ([.slice az y0.source_.b_.length a4, vi y0.source_.at_, vi y0.source_.err_, .bool y0.source_.made_]) ∧ y0.source_.b_.length ≤ a4 ∧ Sl H az y0.source_.b_ ∧ Q r0 y0 := by
 unfold octet_Reader_Number at h
 have hI := Inv.start (M := [d0]) hS
 refine calls_W 43 Try.func82 rfl Try.ntmps82 rfl [.tmp 2] rfl ?_
 have bu := ao.blk.lt
 refine W_seq_k fun K1 k1 => ?_
 refine W_region [2] rfl (Ops_step (R_assign rfl) rfl rfl ?_)
 refine Ops_nil ?_
 refine then_n (k1 _ _ ?_)
 clear k1 K1
 refine W_seq_k fun K2 k2 => ?_
 refine W_seq_k fun K3 k3 => ?_
 refine W_region [7, 8] rfl (Ops_step (R_move rfl) rfl rfl ?_)
 refine Ops_call (C_func bd81 rfl) rfl rfl ?_
 refine (octet_Reader_dead_ok (z0 := z0) hI.st (hg.up hI.le) ao ap af h).mono ?_
 rintro _ cr ⟨cb, ct, cu, rfl, bj, h⟩
 refine Exists.elim (hI.call bj (by simp)) fun cc br => ?_
 have cd := hI.size
 replace hI := br.1
 have bv := br.2.1
 have bw := br.2.2
 clear br
 replace af := af.up bv.hh
 replace ao := ao.up bv (by simp)
 clear bj bv bw
 refine ⟨_, rfl, ?_⟩
 refine Ops_nil ?_
 refine then_n (k3 _ _ ?_)
 clear k3 K3
 refine W_cond rfl (fun bh => ?_) (fun bh => ?_)
 ·
  replace h := h.1 bh
  refine W_seq_k fun K6 k6 => ?_
  refine W_region [2] rfl (Ops_step (R_assign rfl) rfl rfl ?_)
  refine Ops_nil ?_
  refine then_n (k6 _ _ ?_)
  clear k6 K6
  refine W_ret ?_
  refine then_ret ?_
  clear k2 K2
  refine ⟨_, ⟨_, _, rfl, rfl, rfl⟩, ?_⟩
  exact ⟨0, z0, ar, au, _, _, rfl, hI, ao, ap, af, h⟩
 ·
  replace h := h.2 bh
  refine W_skip ?_
  refine then_n (k2 _ _ ?_)
  clear k2 K2
  refine W_seq_k fun K7 k7 => ?_
  refine W_region [3] rfl (Ops_step (R_assign rfl) rfl rfl ?_)
  refine Ops_nil ?_
  refine then_n (k7 _ _ ?_)
  clear k7 K7
  refine W_seq_k fun K8 k8 => ?_
  refine W_region [9, 10, 11, 12, 4] rfl (Ops_step (R_move rfl) rfl rfl (Ops_step (R_nilCheck rfl) rfl rfl (Ops_step (R_fieldAddr fo120_0 rfl) rfl rfl ?_)))
  refine Ops_call (C_func bd91 rfl) rfl rfl ?_
  refine (octet_source_take_ok (x1 := 8) (z0 := z0.source_) hI.st (hg.up hI.le) ao ap af h).mono ?_
  rintro _ cv ⟨ce, cf, cg, ab, ad, ae, cw, bx, rfl, bl, b8, aj, aa, am, ac, h⟩
  refine Exists.elim (hI.call bl (mem1 (by simp))) fun bi bt => ?_
  have ci := hI.size
  replace hI := bt.1
  have b9 := bt.2.1
  have bz := bt.2.2
  clear bt
  replace af := af.up b9.hh
  clear ao
  replace aj := aj.up (Le.refl _)
  clear bl b9 bz
  refine ⟨_, rfl, ?_⟩
  refine Ops_step (R_assign rfl) rfl rfl ?_
  refine Ops_nil ?_
  refine then_n (k8 _ _ ?_)
  clear k8 K8
  refine W_keepB [0, 3, 4] fun B_ b_ => ?_
  simp only [e_, Nat.reduceAdd, Nat.reduceBEq] at b_
  subst b_
  refine ex_ h fun b4 av h => ?_
  refine W_seq_join [0] [3] (fun vals_ w2 => ∃ (an : BitVec 64) (L H : Gh), vals_ = [w64 an] ∧ b4 an ∧ Inv [d0] G w L H w2 ∧ Le bi L ∧ Le bx H ∧ Tok H w2 d0 120 ([.slice ad ab.b_.length ae, vi ab.at_, vi ab.err_, .bool ab.made_]) ∧ True) (fun B_ b_ => ?_) (fun B_ b_ => ?_)
  ·
   simp only [e_, Nat.reduceAdd, Nat.reduceBEq] at b_
   subst b_
   clear av
   have ak := Le.refl bi
   have ah := Le.refl bx
   refine W_seq_k fun K12 k12 => ?_
   refine W_region [13, 14, 15] rfl (Ops_step (R_move rfl) rfl rfl (Ops_step (R_len Try.underlying29 rfl rfl) rfl rfl (Ops_step (R_move rfl) rfl rfl ?_)))
   refine Ops_nil ?_
   refine then_n (k12 _ _ ?_)
   clear k12 K12
   refine W_block ?_
   refine Exists.elim h fun b5 h => Exists.elim h fun b6 h => ?_
   have ca := h.1
   have a5 := h.2
   clear h
   refine W_loopB [0, 13, 14] [3, 15] (fun m vals_ w2 => ∃ (ag : BitVec 64) (ai : Int) (L H : Gh), vals_ = [w64 ag, vi ai] ∧ b5 m ag ai ∧ Inv [d0] G w L H w2 ∧ Le bi L ∧ Le bx H ∧ Tok H w2 d0 120 ([.slice ad ab.b_.length ae, vi ab.at_, vi ab.err_, .bool ab.made_]) ∧ True) b6 _ rfl ⟨(0#64), 0, _, _, rfl, ca, hI, Le.refl _, Le.refl _, aa, trivial⟩ fun B_ b_ => ?_
   clear ca
   simp only [e_, Nat.reduceAdd, Nat.reduceBEq] at b_
   subst b_
   clear aa
   rintro b7 _ cj ⟨ag, ai, ck, cl, rfl, a6, a7, aw, al, aa, -⟩
   replace hI := a7
   clear a7
   have h := a5 b7 ag ai a6
   clear a5 a6
   replace ac := ac.up al
   replace aj := aj.up al
   replace ak := ak.trans aw
   replace ah := ah.trans al
   refine W_seq_k fun K14 k14 => ?_
   refine W_region [16] rfl (Ops_step (R_lss rfl rfl) rfl rfl ?_)
   refine Ops_nil ?_
   refine then_n (k14 _ _ ?_)
   clear k14 K14
   refine W_seq_k fun K15 k15 => ?_
   refine W_if rfl (fun ax => ?_) (fun ax => ?_)
   ·
    replace h := h.1 ax
    refine W_skip ?_
    refine then_n (k15 _ _ ?_)
    clear k15 K15
    refine W_seq_k fun K17 k17 => ?_
    refine W_block ?_
    refine W_seq_k fun K18 k18 => ?_
    refine W_region [17, 18, 6] rfl ?_
    refine ex_ h fun bm aq h => ?_
    have bn := (aj.atS aq).1
    have bo := (aj.atS aq).2
    refine Ops_step (R_indexSl Try.underlying29 sz5 rfl rfl aq.1 aq.lt bn) rfl rfl (Ops_step (R_load ag5 rfl (hI.st _ _ bo)) rfl rfl (Ops_step (R_assign rfl) rfl rfl ?_))
    refine Ops_nil ?_
    refine then_n (k18 _ _ ?_)
    clear k18 K18
    refine W_region [19, 20, 21, 22, 23, 3] rfl (Ops_step (R_move rfl) rfl rfl (Ops_step (R_shl rfl rfl (by decide) (shl64 ag 8 (by decide))) rfl rfl (Ops_step (R_move rfl) rfl rfl (Ops_step (R_conv Try.underlying5 Try.underlying126 rfl (c8_64 _)) rfl rfl ?_))))
    refine Ops_step (R_or rfl rfl (or64 (ag <<< (8 : Nat)) (bm.toBitVec.setWidth 64))) rfl rfl (Ops_step (R_assign rfl) rfl rfl ?_)
    refine Ops_nil ?_
    refine block_n ?_
    refine then_n (k17 _ _ ?_)
    clear k17 K17
    refine W_keepB [0, 3, 13, 14, 15] fun B_ b_ => ?_
    simp only [e_, Nat.reduceAdd, Nat.reduceBEq] at b_
    subst b_
    refine W_region [24, 15] rfl ?_
    have a8 := h.1
    replace h := h.2
    refine Ops_step (R_add rfl rfl (wI a8.1 a8.2)) rfl rfl (Ops_step (R_move rfl) rfl rfl ?_)
    refine Ops_nil ?_
    refine then_n ?_
    exact h.elim fun m_ h => ⟨m_, _, h.1, rfl, ⟨((ag <<< (8 : Nat)) ||| (bm.toBitVec.setWidth 64)), (ai + 1), _, _, rfl, h.2, hI, aw, al, aa, trivial⟩, ⟨rfl, rfl, rfl, trivial⟩⟩
   ·
    replace h := h.2 ax
    refine W_exit ?_
    refine then_exit ?_
    clear k15 K15
    refine then_exit ?_
    refine block_exit ?_
    refine then_n ?_
    exact ⟨_, rfl, ⟨ag, _, _, rfl, h, hI, ak, ah, aa, trivial⟩, ⟨rfl, trivial⟩⟩
  ·
   simp only [e_, Nat.reduceAdd, Nat.reduceBEq] at b_
   subst b_
   clear h
   clear aa
   rintro _ cm ⟨an, co, bp, rfl, a9, ba, ak, ah, aa, -⟩
   replace hI := ba
   clear ba
   have h := av an a9
   clear av a9
   replace ac := ac.up ah
   refine W_seq_k fun K22 k22 => ?_
   refine W_seq_k fun K23 k23 => ?_
   refine W_region [25, 26] rfl (Ops_step (R_move rfl) rfl rfl (Ops_step (R_gtr rfl rfl) rfl rfl ?_))
   refine Ops_nil ?_
   refine then_n (k23 _ _ ?_)
   clear k23 K23
   refine W_if rfl (fun ay => ?_) (fun ay => ?_)
   ·
    replace h := h.1 ay
    refine W_seq_k fun K25 k25 => ?_
    refine W_region [27, 28, 29, 30, 31, 32, 33, 34, 35, 36, 37, none, 38, 39, 40, none] rfl (Ops_step (R_move rfl) rfl rfl (Ops_step (R_move rfl) rfl rfl (Ops_step (R_move rfl) rfl rfl (Ops_step (R_nilCheck rfl) rfl rfl ?_))))
    refine Ops_step (R_fieldAddr fo120_0 rfl) rfl rfl (Ops_step (R_fieldAddr fo118_1 rfl) rfl rfl ?_)
    refine Ops_step (R_loadB (v := vi ab.at_) ag3 rfl aa.blk rfl) rfl rfl ?_
    have bc := h.1
    replace h := h.2
    refine Ops_step (R_sub rfl rfl (wI bc.1 bc.2)) rfl rfl (Ops_step (R_nilCheck rfl) rfl rfl (Ops_step (R_fieldAddr fo120_0 rfl) rfl rfl (Ops_step (R_fieldAddr fo118_1 rfl) rfl rfl ?_)))
    refine Ops_to0 (R_store sz3 rfl rfl aa.blk (by show 1 < 4; decide) rfl) rfl ?_
    rintro _ cp ⟨bd, be⟩
    replace hI := hI.tok be (out1 aa.out) (mem1 (by simp))
    replace aa : Tok bp _ d0 120 ([.slice ad ab.b_.length ae, vi (ab.at_ - 8), vi ab.err_, .bool ab.made_]) := ⟨bd, aa.out⟩
    clear be bd
    refine Ops_step (R_nilCheck rfl) rfl rfl (Ops_step (R_fieldAddr fo120_0 rfl) rfl rfl (Ops_step (R_fieldAddr fo118_2 rfl) rfl rfl ?_))
    refine Ops_to0 (R_store sz32 rfl rfl aa.blk (by show 2 < 4; decide) rfl) rfl ?_
    rintro _ cq ⟨bf, bg⟩
    replace hI := hI.tok bg (out1 aa.out) (mem1 (by simp))
    replace aa : Tok bp _ d0 120 ([.slice ad ab.b_.length ae, vi (ab.at_ - 8), vi 5, .bool ab.made_]) := ⟨bf, aa.out⟩
    clear bg bf
    refine Ops_nil ?_
    refine then_n (k25 _ _ ?_)
    clear k25 K25
    refine W_keepB [] fun B_ b_ => ?_
    simp only [e_, Nat.reduceAdd, Nat.reduceBEq] at b_
    subst b_
    refine W_seq_k fun K30 k30 => ?_
    refine W_region [2] rfl (Ops_step (R_assign rfl) rfl rfl ?_)
    refine Ops_nil ?_
    refine then_n (k30 _ _ ?_)
    clear k30 K30
    refine W_ret ?_
    refine then_ret ?_
    clear k22 K22
    refine ⟨_, ⟨_, _, rfl, rfl, rfl⟩, ?_⟩
    exact ⟨0, (octet_Reader.mk (octet_source.mk ab.b_ (ab.at_ - 8) 5 ab.made_)), ad, ae, _, _, rfl, hI, aa, am, ac, h⟩
   ·
    replace h := h.2 ay
    refine W_skip ?_
    refine then_n (k22 _ _ ?_)
    clear k22 K22
    refine W_seq_k fun K31 k31 => ?_
    refine W_region [41, 42, 2] rfl (Ops_step (R_move rfl) rfl rfl ?_)
    have bq := h.1
    replace h := h.2
    refine Ops_step (R_conv Try.underlying126 Try.underlying3 rfl (c64_I _ bq)) rfl rfl (Ops_step (R_assign rfl) rfl rfl ?_)
    refine Ops_nil ?_
    refine then_n (k31 _ _ ?_)
    clear k31 K31
    refine W_keepB [2] fun B_ b_ => ?_
    simp only [e_, Nat.reduceAdd, Nat.reduceBEq] at b_
    subst b_
    refine W_ret ?_
    refine ⟨_, ⟨_, _, rfl, rfl, rfl⟩, ?_⟩
    exact ⟨(an.toNat : Int), (octet_Reader.mk ab), ad, ae, _, _, rfl, hI, aa, am, ac, h⟩

theorem octet_Reader_Bytes_ok {G : Gh} {w : World} (hS : St G w) (hg : GL G) {d0 : Nat} {z0 : octet_Reader} {a8 : Option Addr} {a9 : Nat} (aj : Tok G w d0 120 ([.slice a8 z0.source_.b_.length a9, vi z0.source_.at_, vi z0.source_.err_, .bool z0.source_.made_])) (a6 : z0.source_.b_.length ≤ a9) (ae : Sl G a8 z0.source_.b_) {x1 : Int} {Q : (List UInt8) → octet_Reader → Prop} (h : octet_Reader_Bytes z0 x1 Q) : Calls Try.prog 85 #[.pointer (some ⟨d0, 0, none⟩), vi x1] w fun e w2 => ∃ (A0 : Option Addr) (c0 : Nat) (r0 : List UInt8) (y0 : octet_Reader) (bq : Option Addr) (br : Nat) (L H : Gh), e = .returned (.slice A0 r0.length c0) ∧ Inv [d0] G w L H w2 ∧ OwnS w.heap.size 5 L H w2 A0 c0 r0 ∧ Tok H w2 d0 120 ([.slice bq y0.source_.b_.length br, vi y0.source_.at_, vi y0.source_.err_, .bool y0.source_.made_]) ∧ y0.source_.b_.length ≤ br ∧ Sl H bq y0.source_.b_ ∧ Q r0 y0 := by
 unfold octet_Reader_Bytes at h
 have hI := Inv.start (M := [d0]) hS
 refine calls_W 60 Try.func85 rfl Try.ntmps85 rfl [.tmp 4] rfl ?_
 have cb := aj.blk.lt
 refine W_seq_k fun K1 k1 => ?_
 refine W_region [4] rfl (Ops_step (R_assign rfl) rfl rfl ?_)
 refine Ops_nil ?_
 refine then_n (k1 _ _ ?_)
 clear k1 K1
 refine W_seq_k fun K2 k2 => ?_
 refine ex_ h fun de cc h => ?_
 refine W_seq_join [0, 1] [17] (fun vals_ w2 => ∃ (ba : Bool) (L H : Gh), vals_ = [.bool ba] ∧ de ba ∧ Inv [d0] G w L H w2 ∧ Le Gh.no L ∧ Le G H ∧ Tok H w2 d0 120 ([.slice a8 z0.source_.b_.length a9, vi z0.source_.at_, vi z0.source_.err_, .bool z0.source_.made_]) ∧ True) (fun B_ b_ => ?_) (fun B_ b_ => ?_)
 ·
  simp only [e_, Nat.reduceAdd, Nat.reduceBEq] at b_
  subst b_
  clear cc
  have a4 := Le.refl Gh.no
  have au := Le.refl G
  refine W_region [8, 9, 10, 11, 12, 13, 14, 15, 16, 17] rfl (Ops_step (R_move rfl) rfl rfl ?_)
  refine Ops_call (C_func bd81 rfl) rfl rfl ?_
  refine (octet_Reader_dead_ok (z0 := z0) hI.st (hg.up hI.le) aj a6 ae h).mono ?_
  rintro _ dx ⟨df, dy, dz, rfl, cg, h⟩
  refine Exists.elim (hI.call cg (by simp)) fun dg cv => ?_
  have dh := hI.size
  replace hI := cv.1
  have ci := cv.2.1
  have cw := cv.2.2
  clear cv
  replace ae := ae.up ci.hh
  replace aj := aj.up ci (by simp)
  replace a4 := a4.trans ci.ll
  replace au := au.trans ci.hh
  clear cg ci cw
  refine ⟨_, rfl, ?_⟩
  refine Ops_step (R_move rfl) rfl rfl ?_
  refine Ops_splitB 10 rfl (fun cd => ?_) (fun cd => ?_)
  ·
   replace h := h.1 cd
   refine Ops_pass rfl rfl (Ops_pass rfl rfl (Ops_pass rfl rfl (Ops_pass rfl rfl (Ops_pass rfl rfl ?_))))
   refine Ops_pass rfl rfl (Ops_step (R_pick_true rfl rfl) rfl rfl ?_)
   refine Ops_nil ?_
   refine then_n ?_
   exact ⟨_, rfl, ⟨true, _, _, rfl, h, hI, a4, au, aj, trivial⟩, ⟨rfl, rfl, trivial⟩⟩
  ·
   replace h := h.2 cd
   refine Ops_step (R_move rfl) rfl rfl (Ops_step (R_nilCheck rfl) rfl rfl (Ops_step (R_fieldAddr fo120_0 rfl) rfl rfl (Ops_step (R_fieldAddr fo118_2 rfl) rfl rfl ?_)))
   refine Ops_step (R_loadB (v := vi z0.source_.err_) ag32 rfl aj.blk rfl) rfl rfl ?_
   refine Ops_step (R_neq rfl rfl) rfl rfl (Ops_step (R_pick_false rfl rfl) rfl rfl ?_)
   refine Ops_nil ?_
   refine then_n ?_
   exact ⟨_, rfl, ⟨(decide (z0.source_.err_ ≠ 0)), _, _, rfl, h, hI, a4, au, aj, trivial⟩, ⟨rfl, rfl, trivial⟩⟩
 ·
  simp only [e_, Nat.reduceAdd, Nat.reduceBEq] at b_
  subst b_
  clear h
  clear aj
  rintro _ d5 ⟨ba, d6, d7, rfl, cj, ck, a4, au, aj, -⟩
  replace hI := ck
  clear ck
  have h := cc ba cj
  clear cc cj
  replace ae := ae.up au
  refine W_cond rfl (fun ce => ?_) (fun ce => ?_)
  ·
   replace h := h.1 ce
   refine W_seq_k fun K7 k7 => ?_
   refine W_region [4] rfl (Ops_step (R_assign rfl) rfl rfl ?_)
   refine Ops_nil ?_
   refine then_n (k7 _ _ ?_)
   clear k7 K7
   refine W_ret ?_
   refine then_ret ?_
   clear k2 K2
   refine ⟨_, ⟨_, _, rfl, rfl, rfl⟩, ?_⟩
   exact ⟨none, 0, [], z0, a8, a9, _, _, rfl, hI, OwnS.nil, aj, a6, ae, h⟩
  ·
   replace h := h.2 ce
   refine W_skip ?_
   refine then_n (k2 _ _ ?_)
   clear k2 K2
   refine W_seq_k fun K8 k8 => ?_
   refine W_region [18, 19, 20, 21, 22, 5] rfl (Ops_step (R_move rfl) rfl rfl (Ops_step (R_nilCheck rfl) rfl rfl (Ops_step (R_fieldAddr fo120_0 rfl) rfl rfl (Ops_step (R_fieldAddr fo118_1 rfl) rfl rfl ?_))))
   refine Ops_step (R_loadB (v := vi z0.source_.at_) ag3 rfl aj.blk rfl) rfl rfl ?_
   refine Ops_step (R_assign rfl) rfl rfl ?_
   refine Ops_nil ?_
   refine then_n (k8 _ _ ?_)
   clear k8 K8
   refine W_keepB [0, 1, 5] fun B_ b_ => ?_
   simp only [e_, Nat.reduceAdd, Nat.reduceBEq] at b_
   subst b_
   refine W_seq_k fun K10 k10 => ?_
   refine W_region [23, 24, 6] rfl (Ops_step (R_move rfl) rfl rfl ?_)
   refine Ops_call (C_func bd82 rfl) rfl rfl ?_
   refine (octet_Reader_Number_ok (z0 := z0) hI.st (hg.up hI.le) aj a6 ae h).mono ?_
   rintro _ di ⟨bt, ac, ah, ai, dj, bn, rfl, bu, aa, av, ag, h⟩
   refine Exists.elim (hI.call bu (mem1 (by simp))) fun bc bo => ?_
   have c9 := hI.size
   replace hI := bo.1
   have cl := bo.2.1
   have cm := bo.2.2
   clear bo
   replace ae := ae.up cl.hh
   clear aj
   clear bu cl cm
   refine ⟨_, rfl, ?_⟩
   refine Ops_step (R_assign rfl) rfl rfl ?_
   refine Ops_nil ?_
   refine then_n (k10 _ _ ?_)
   clear k10 K10
   refine ex_ h fun cx bf h => ?_
   refine W_seq_join [0, 5, 6] [] (fun vals_ w2 => ∃ (ad : octet_Reader) (al : Option Addr) (am : Nat) (L H : Gh), vals_ = [] ∧ cx ad ∧ Inv [d0] G w L H w2 ∧ Le bc L ∧ Le bn H ∧ Tok H w2 d0 120 ([.slice al ad.source_.b_.length am, vi ad.source_.at_, vi ad.source_.err_, .bool ad.source_.made_]) ∧ ad.source_.b_.length ≤ am ∧ Sl H al ad.source_.b_ ∧ True) (fun B_ b_ => ?_) (fun B_ b_ => ?_)
   ·
    simp only [e_, Nat.reduceAdd, Nat.reduceBEq] at b_
    subst b_
    clear bf
    have an := Le.refl bc
    have ao := Le.refl bn
    refine ex_ h fun cy bg h => ?_
    refine W_seq_join [0, 5, 6] [36] (fun vals_ w2 => ∃ (ay : Bool) (L H : Gh), vals_ = [.bool ay] ∧ cy ay ∧ Inv [d0] G w L H w2 ∧ Le bc L ∧ Le bn H ∧ Tok H w2 d0 120 ([.slice ah ac.source_.b_.length ai, vi ac.source_.at_, vi ac.source_.err_, .bool ac.source_.made_]) ∧ True) (fun B_ b_ => ?_) (fun B_ b_ => ?_)
    ·
     simp only [e_, Nat.reduceAdd, Nat.reduceBEq] at b_
     subst b_
     clear bg
     have az := Le.refl bc
     have ap := Le.refl bn
     refine W_region [25, 26, 27, 28, 29, 30, 31, 32, 33, 34, 35, 36] rfl (Ops_step (R_move rfl) rfl rfl (Ops_step (R_nilCheck rfl) rfl rfl (Ops_step (R_fieldAddr fo120_0 rfl) rfl rfl (Ops_step (R_fieldAddr fo118_2 rfl) rfl rfl ?_))))
     refine Ops_step (R_loadB (v := vi ac.source_.err_) ag32 rfl aa.blk rfl) rfl rfl ?_
     refine Ops_step (R_eql rfl rfl) rfl rfl (Ops_step (R_move rfl) rfl rfl ?_)
     refine Ops_split 31 rfl (fun bh => ?_) (fun bh => ?_)
     ·
      replace h := h.1 bh
      refine Ops_step (R_move rfl) rfl rfl (Ops_step (R_move rfl) rfl rfl (Ops_step (R_max rfl rfl _root_.rfl) rfl rfl (Ops_step (R_gtr rfl rfl) rfl rfl (Ops_step (R_pick_true rfl rfl) rfl rfl ?_))))
      refine Ops_nil ?_
      refine then_n ?_
      exact ⟨_, rfl, ⟨(decide (bt > (max x1 0))), _, _, rfl, h, hI, az, ap, aa, trivial⟩, ⟨rfl, rfl, rfl, trivial⟩⟩
     ·
      replace h := h.2 bh
      refine Ops_pass rfl rfl (Ops_pass rfl rfl (Ops_pass rfl rfl (Ops_pass rfl rfl (Ops_step (R_pick_false rfl rfl) rfl rfl ?_))))
      refine Ops_nil ?_
      refine then_n ?_
      exact ⟨_, rfl, ⟨false, _, _, rfl, h, hI, az, ap, aa, trivial⟩, ⟨rfl, rfl, rfl, trivial⟩⟩
    ·
     simp only [e_, Nat.reduceAdd, Nat.reduceBEq] at b_
     subst b_
     clear h
     clear aa
     rintro _ dk ⟨ay, dl, cz, rfl, bv, bw, az, ap, aa, -⟩
     replace hI := bw
     clear bw
     have h := bg ay bv
     clear bg bv
     replace ag := ag.up ap
     replace an := an.trans az
     replace ao := ao.trans ap
     refine W_cond rfl (fun bi => ?_) (fun bi => ?_)
     ·
      replace h := h.1 bi
      refine W_region [37, 38, 39, 40, none] rfl (Ops_step (R_move rfl) rfl rfl (Ops_step (R_nilCheck rfl) rfl rfl (Ops_step (R_fieldAddr fo120_0 rfl) rfl rfl (Ops_step (R_fieldAddr fo118_2 rfl) rfl rfl ?_))))
      refine Ops_to0 (R_store sz32 rfl rfl aa.blk (by show 2 < 4; decide) rfl) rfl ?_
      rintro _ dm ⟨bx, bz⟩
      replace hI := hI.tok bz (out1 aa.out) (mem1 (by simp))
      replace aa : Tok cz _ d0 120 ([.slice ah ac.source_.b_.length ai, vi ac.source_.at_, vi 4, .bool ac.source_.made_]) := ⟨bx, aa.out⟩
      clear bz bx
      refine Ops_nil ?_
      refine then_n ?_
      exact ⟨_, rfl, ⟨(octet_Reader.mk (octet_source.mk ac.source_.b_ ac.source_.at_ 4 ac.source_.made_)), ah, ai, _, _, rfl, h, hI, an, ao, aa, av, ag, trivial⟩, ⟨rfl, rfl, rfl, trivial⟩⟩
     ·
      replace h := h.2 bi
      refine W_skip ?_
      refine then_n ?_
      exact ⟨_, rfl, ⟨ac, ah, ai, _, _, rfl, h, hI, an, ao, aa, av, ag, trivial⟩, ⟨rfl, rfl, rfl, trivial⟩⟩
   ·
    simp only [e_, Nat.reduceAdd, Nat.reduceBEq] at b_
    subst b_
    clear h
    rintro _ dn ⟨ad, al, am, dp, dq, rfl, b4, b5, an, ao, bd, be, ak, -⟩
    replace hI := b5
    clear b5
    have h := bf ad b4
    clear bf b4
    refine W_seq_k fun K17 k17 => ?_
    refine W_region [41, 42, 43, 44, 45, 7] rfl (Ops_step (R_move rfl) rfl rfl (Ops_step (R_nilCheck rfl) rfl rfl (Ops_step (R_fieldAddr fo120_0 rfl) rfl rfl (Ops_step (R_move rfl) rfl rfl ?_))))
    refine Ops_call (C_func bd91 rfl) rfl rfl ?_
    refine (octet_source_take_ok (x1 := bt) (z0 := ad.source_) hI.st (hg.up hI.le) bd be ak h).mono ?_
    rintro _ dr ⟨da, db, b6, af, aq, ar, dt, co, rfl, b7, c5, a7, ab, aw, ax, h⟩
    refine Exists.elim (hI.call b7 (mem1 (by simp))) fun dc bp => ?_
    have dd := hI.size
    replace hI := bp.1
    have cp := bp.2.1
    have cq := bp.2.2
    clear bp
    replace ak := ak.up cp.hh
    clear bd
    replace a7 := a7.up (Le.refl _)
    clear b7 cp cq
    refine ⟨_, rfl, ?_⟩
    refine Ops_step (R_assign rfl) rfl rfl ?_
    refine Ops_nil ?_
    refine then_n (k17 _ _ ?_)
    clear k17 K17
    refine W_keepB [0, 5, 7] fun B_ b_ => ?_
    simp only [e_, Nat.reduceAdd, Nat.reduceBEq] at b_
    subst b_
    refine W_seq_k fun K20 k20 => ?_
    refine W_seq_k fun K21 k21 => ?_
    refine W_region [46, 47, 48, 49, 50, 51] rfl (Ops_step (R_move rfl) rfl rfl (Ops_step (R_nilCheck rfl) rfl rfl (Ops_step (R_fieldAddr fo120_0 rfl) rfl rfl (Ops_step (R_fieldAddr fo118_2 rfl) rfl rfl ?_))))
    refine Ops_step (R_loadB (v := vi af.err_) ag32 rfl ab.blk rfl) rfl rfl ?_
    refine Ops_step (R_neq rfl rfl) rfl rfl ?_
    refine Ops_nil ?_
    refine then_n (k21 _ _ ?_)
    clear k21 K21
    refine W_if rfl (fun bj => ?_) (fun bj => ?_)
    ·
     replace h := h.1 bj
     refine W_seq_k fun K23 k23 => ?_
     refine W_region [52, 53, 54, 55, 56, none] rfl (Ops_step (R_move rfl) rfl rfl (Ops_step (R_move rfl) rfl rfl (Ops_step (R_nilCheck rfl) rfl rfl (Ops_step (R_fieldAddr fo120_0 rfl) rfl rfl ?_))))
     refine Ops_step (R_fieldAddr fo118_1 rfl) rfl rfl ?_
     refine Ops_to0 (R_store sz3 rfl rfl ab.blk (by show 1 < 4; decide) rfl) rfl ?_
     rintro _ du ⟨b8, b9⟩
     replace hI := hI.tok b9 (out1 ab.out) (mem1 (by simp))
     replace ab : Tok co _ d0 120 ([.slice aq af.b_.length ar, vi z0.source_.at_, vi af.err_, .bool af.made_]) := ⟨b8, ab.out⟩
     clear b9 b8
     refine Ops_nil ?_
     refine then_n (k23 _ _ ?_)
     clear k23 K23
     refine W_keepB [] fun B_ b_ => ?_
     simp only [e_, Nat.reduceAdd, Nat.reduceBEq] at b_
     subst b_
     refine W_seq_k fun K26 k26 => ?_
     refine W_region [4] rfl (Ops_step (R_assign rfl) rfl rfl ?_)
     refine Ops_nil ?_
     refine then_n (k26 _ _ ?_)
     clear k26 K26
     refine W_ret ?_
     refine then_ret ?_
     clear k20 K20
     refine ⟨_, ⟨_, _, rfl, rfl, rfl⟩, ?_⟩
     exact ⟨none, 0, [], (octet_Reader.mk (octet_source.mk af.b_ z0.source_.at_ af.err_ af.made_)), aq, ar, _, _, rfl, hI, OwnS.nil, ab, aw, ax, h⟩
    ·
     replace h := h.2 bj
     refine W_skip ?_
     refine then_n (k20 _ _ ?_)
     clear k20 K20
     refine W_keepB [7] fun B_ b_ => ?_
     simp only [e_, Nat.reduceAdd, Nat.reduceBEq] at b_
     subst b_
     refine W_seq_k fun K28 k28 => ?_
     refine W_region [57, 58, 59, 4] rfl ?_
     refine Ops_to (R_buildSlice0 el29) rfl rfl ?_
     rintro _ dv ⟨c6, rfl, cr, ca, bl⟩
     have a5 : OwnS w.heap.size 5 Gh.no co _ (some ⟨c6, 0, none⟩) 0 ([] : List UInt8) := OwnS.ofBlk hI.st cr ca (all2_sc' _) rfl (by have := hI.size; omega) (by show 0 ≤ maxLen; decide)
     replace hI := hI.fr0 bl
     replace ab := ab.fr0 bl
     clear bl ca
     refine Ops_step (R_move rfl) rfl rfl ?_
     have ct := h.1
     replace h := h.2
     refine Ops_to (X_append (α := UInt8) (xs := ([] : List UInt8)) (ys := b6) el29 rfl rfl a5 (Srcs.sc (Srcs.ofSl Try.underlying29 a7 hI.st (by decide))) hI.st ct (by decide) hI.size) rfl rfl ?_
     rintro _ dw ⟨c7, c8, rfl, cu, bm, cf⟩
     clear cf
     replace hI := hI.tok bm a5.out (a5.new (Nat.le_refl _))
     replace ab := ab.fr bm (a5.old cb)
     clear bm a5
     refine Ops_step (R_assign rfl) rfl rfl ?_
     refine Ops_nil ?_
     refine then_n (k28 _ _ ?_)
     clear k28 K28
     refine W_ret ?_
     refine ⟨_, ⟨_, _, rfl, rfl, rfl⟩, ?_⟩
     exact ⟨c7, c8, (([] : List UInt8) ++ b6), (octet_Reader.mk af), aq, ar, _, _, rfl, hI, (cu.hl (Le.no _)), ab, aw, ax, h⟩

theorem octet_Reader_Err_ok {G : Gh} {w : World} (hS : St G w) (hg : GL G) {d0 : Nat} {z0 : octet_Reader} {ac : Option Addr} {ad : Nat} (ab : Tok G w d0 120 ([.slice ac z0.source_.b_.length ad, vi z0.source_.at_, vi z0.source_.err_, .bool z0.source_.made_])) (ae : z0.source_.b_.length ≤ ad) (aa : Sl G ac z0.source_.b_) {Q : Int → Prop} (h : octet_Reader_Err z0 Q) : Calls Try.prog 83 #[.pointer (some ⟨d0, 0, none⟩)] w fun e w2 => ∃ (r0 : Int) (L H : Gh), e = .returned (vi r0) ∧ Inv [] G w L H w2 ∧ Q r0 := by
 unfold octet_Reader_Err at h
 have hI := Inv.start (M := []) hS
 refine calls_W 10 Try.func83 rfl Try.ntmps83 rfl [.tmp 2] rfl ?_
 have ai := ab.blk.lt
 refine W_seq_k fun K1 k1 => ?_
 refine W_region [2] rfl (Ops_step (R_assign rfl) rfl rfl ?_)
 refine Ops_nil ?_
 refine then_n (k1 _ _ ?_)
 clear k1 K1
 refine W_seq_k fun K2 k2 => ?_
 refine W_seq_k fun K3 k3 => ?_
 refine W_region [3, 4] rfl (Ops_step (R_move rfl) rfl rfl ?_)
 refine Ops_call (C_func bd81 rfl) rfl rfl ?_
 refine (octet_Reader_dead_ok (z0 := z0) hI.st (hg.up hI.le) ab ae aa h).mono ?_
 rintro _ ao ⟨al, ap, aq, rfl, ag, h⟩
 refine Exists.elim (hI.call ag (by simp)) fun am ah => ?_
 have an := hI.size
 replace hI := ah.1
 have aj := ah.2.1
 have ak := ah.2.2
 clear ah
 replace aa := aa.up aj.hh
 replace ab := ab.up aj (by simp)
 clear ag aj ak
 refine ⟨_, rfl, ?_⟩
 refine Ops_nil ?_
 refine then_n (k3 _ _ ?_)
 clear k3 K3
 refine W_cond rfl (fun af => ?_) (fun af => ?_)
 ·
  replace h := h.1 af
  refine W_seq_k fun K6 k6 => ?_
  refine W_region [2] rfl (Ops_step (R_assign rfl) rfl rfl ?_)
  refine Ops_nil ?_
  refine then_n (k6 _ _ ?_)
  clear k6 K6
  refine W_ret ?_
  refine then_ret ?_
  clear k2 K2
  refine ⟨_, ⟨_, _, rfl, rfl, rfl⟩, ?_⟩
  exact ⟨6, _, _, rfl, hI, h⟩
 ·
  replace h := h.2 af
  refine W_skip ?_
  refine then_n (k2 _ _ ?_)
  clear k2 K2
  refine W_seq_k fun K7 k7 => ?_
  refine W_region [5, 6, 7, 8, 9, 2] rfl (Ops_step (R_move rfl) rfl rfl (Ops_step (R_nilCheck rfl) rfl rfl (Ops_step (R_fieldAddr fo120_0 rfl) rfl rfl (Ops_step (R_fieldAddr fo118_2 rfl) rfl rfl ?_))))
  refine Ops_step (R_loadB (v := vi z0.source_.err_) ag32 rfl ab.blk rfl) rfl rfl ?_
  refine Ops_step (R_assign rfl) rfl rfl ?_
  refine Ops_nil ?_
  refine then_n (k7 _ _ ?_)
  clear k7 K7
  refine W_keepB [2] fun B_ b_ => ?_
  simp only [e_, Nat.reduceAdd, Nat.reduceBEq] at b_
  subst b_
  refine W_ret ?_
  refine ⟨_, ⟨_, _, rfl, rfl, rfl⟩, ?_⟩
  exact ⟨z0.source_.err_, _, _, rfl, hI, h⟩

theorem octet_source_left_ok {G : Gh} {w : World} (hS : St G w) (hg : GL G) {d0 : Nat} {z0 : octet_source} {aa : Option Addr} {ab : Nat} (ac : Tok G w d0 120 ([.slice aa z0.b_.length ab, vi z0.at_, vi z0.err_, .bool z0.made_])) (ag : z0.b_.length ≤ ab) (ah : Sl G aa z0.b_) {Q : Int → Prop} (h : octet_source_left z0 Q) : Calls Try.prog 84 #[.pointer (some ⟨d0, 0, none⟩)] w fun e w2 => ∃ (r0 : Int) (L H : Gh), e = .returned (vi r0) ∧ Inv [] G w L H w2 ∧ Q r0 := by
 unfold octet_source_left at h
 have hI := Inv.start (M := []) hS
 refine calls_W 13 Try.func84 rfl Try.ntmps84 rfl [.tmp 2] rfl ?_
 have ai := ac.blk.lt
 refine W_seq_k fun K1 k1 => ?_
 refine W_region [2] rfl (Ops_step (R_assign rfl) rfl rfl ?_)
 refine Ops_nil ?_
 refine then_n (k1 _ _ ?_)
 clear k1 K1
 refine W_seq_k fun K2 k2 => ?_
 refine W_drawF [3, 4, 5, 6, 7, 8, 9, 10, 11, 12, 2] [(0, true), (1, true), (2, true), (3, true), (4, true), (5, true), (6, true), (7, true), (8, true), (9, true), (10, true)] TJtA.hm rfl (by kernel_rfl) fun aj ak ad ae => ?_
 replace hI := hI.fr0 ae
 replace ac := ac.fr0 ae
 clear ae
 refine HSp (R_move rfl) rfl rfl (HSp (R_nilCheck rfl) rfl rfl (HSp (R_fieldAddr fo118_0 rfl) rfl rfl ?_))
 refine HS_loadB (v := .slice aa z0.b_.length ab) ag29 rfl ac.blk rfl rfl rfl ?_
 refine HSp (R_len Try.underlying29 rfl rfl) rfl rfl (HSp (R_move rfl) rfl rfl (HSp (R_nilCheck rfl) rfl rfl (HSp (R_fieldAddr fo118_1 rfl) rfl rfl ?_)))
 refine HS_loadB (v := vi z0.at_) ag3 rfl ac.blk rfl rfl rfl ?_
 have af := h.1
 replace h := h.2
 refine HSp (R_sub rfl rfl (wI af.1 af.2)) rfl rfl (HSp (R_assign rfl) rfl rfl ?_)
 refine HS_nil ?_
 clear ad
 refine then_n (k2 _ _ ?_)
 clear k2 K2
 refine W_keepB [2] fun B_ b_ => ?_
 simp only [e_, Nat.reduceAdd, Nat.reduceBEq] at b_
 subst b_
 refine W_ret ?_
 refine ⟨_, ⟨_, _, rfl, rfl, rfl⟩, ?_⟩
 exact ⟨((z0.b_.length : Int) - z0.at_), _, _, rfl, hI, h⟩

theorem octet_Reader_Left_ok {G : Gh} {w : World} (hS : St G w) (hg : GL G) {d0 : Nat} {z0 : octet_Reader} {ac : Option Addr} {ad : Nat} (ab : Tok G w d0 120 ([.slice ac z0.source_.b_.length ad, vi z0.source_.at_, vi z0.source_.err_, .bool z0.source_.made_])) (ae : z0.source_.b_.length ≤ ad) (aa : Sl G ac z0.source_.b_) {Q : Int → Prop} (h : octet_Reader_Left z0 Q) : Calls Try.prog 90 #[.pointer (some ⟨d0, 0, none⟩)] w fun e w2 => ∃ (r0 : Int) (L H : Gh), e = .returned (vi r0) ∧ Inv [] G w L H w2 ∧ Q r0 := by
 unfold octet_Reader_Left at h
 have hI := Inv.start (M := []) hS
 refine calls_W 9 Try.func90 rfl Try.ntmps90 rfl [.tmp 2] rfl ?_
 have ah := ab.blk.lt
 refine W_seq_k fun K1 k1 => ?_
 refine W_region [2] rfl (Ops_step (R_assign rfl) rfl rfl ?_)
 refine Ops_nil ?_
 refine then_n (k1 _ _ ?_)
 clear k1 K1
 refine W_seq_k fun K2 k2 => ?_
 refine W_seq_k fun K3 k3 => ?_
 refine W_region [3, 4] rfl (Ops_step (R_move rfl) rfl rfl (Ops_step (R_ptrNil Try.underlying103 rfl rfl) rfl rfl ?_))
 refine Ops_nil ?_
 refine then_n (k3 _ _ ?_)
 clear k3 K3
 refine W_cond_false rfl ?_
 refine W_skip ?_
 refine then_n (k2 _ _ ?_)
 clear k2 K2
 refine W_seq_k fun K4 k4 => ?_
 refine W_region [5, 6, 7, 8, 2] rfl (Ops_step (R_move rfl) rfl rfl (Ops_step (R_nilCheck rfl) rfl rfl (Ops_step (R_fieldAddr fo120_0 rfl) rfl rfl ?_)))
 refine Ops_call (C_func bd84 rfl) rfl rfl ?_
 refine (octet_source_left_ok (z0 := z0.source_) hI.st (hg.up hI.le) ab ae aa h).mono ?_
 rintro _ an ⟨ai, ao, ap, rfl, af, h⟩
 refine Exists.elim (hI.call af (by simp)) fun al ag => ?_
 have am := hI.size
 replace hI := ag.1
 have aj := ag.2.1
 have ak := ag.2.2
 clear ag
 replace aa := aa.up aj.hh
 replace ab := ab.up aj (by simp)
 clear af aj ak
 refine ⟨_, rfl, ?_⟩
 refine Ops_step (R_assign rfl) rfl rfl ?_
 refine Ops_nil ?_
 refine then_n (k4 _ _ ?_)
 clear k4 K4
 refine W_keepB [2] fun B_ b_ => ?_
 simp only [e_, Nat.reduceAdd, Nat.reduceBEq] at b_
 subst b_
 refine W_ret ?_
 refine ⟨_, ⟨_, _, rfl, rfl, rfl⟩, ?_⟩
 exact ⟨ai, _, _, rfl, hI, h⟩

theorem octet_Sum_ok {G : Gh} {w : World} (hS : St G w) (hg : GL G) {A0 : Option Addr} {c0 : Nat} {x0 : List UInt8} (hc0 : x0.length ≤ c0) (hs0 : Sl G A0 x0) {Q : (BitVec 32) → Prop} (h : octet_Sum x0 Q) : Calls Try.prog 89 #[.slice A0 x0.length c0] w fun e w2 => ∃ (r0 : BitVec 32) (L H : Gh), e = .returned (w32 r0) ∧ Inv [] G w L H w2 ∧ Q r0 := by
 unfold octet_Sum at h
 have hI := Inv.start (M := []) hS
 refine calls_W 30 Try.func89 rfl Try.ntmps89 rfl [.tmp 2] rfl ?_
 refine W_seq_k fun K1 k1 => ?_
 refine W_region [2] rfl (Ops_step (R_assign rfl) rfl rfl ?_)
 refine Ops_nil ?_
 refine then_n (k1 _ _ ?_)
 clear k1 K1
 refine W_seq_k fun K2 k2 => ?_
 refine W_region [3] rfl (Ops_step (R_assign rfl) rfl rfl ?_)
 refine Ops_nil ?_
 refine then_n (k2 _ _ ?_)
 clear k2 K2
 refine ex_ h fun bm ax h => ?_
 refine W_seq_join [] [3] (fun vals_ w2 => ∃ (am : BitVec 32) (L H : Gh), vals_ = [w32 am] ∧ bm am ∧ Inv [] G w L H w2 ∧ Le Gh.no L ∧ Le G H ∧ True) (fun B_ b_ => ?_) (fun B_ b_ => ?_)
 ·
  simp only [e_, Nat.reduceAdd, Nat.reduceBEq] at b_
  subst b_
  clear ax
  have ab := Le.refl Gh.no
  have ac := Le.refl G
  refine W_seq_k fun K4 k4 => ?_
  refine W_region [7, 8, 9] rfl (Ops_step (R_move rfl) rfl rfl (Ops_step (R_len Try.underlying29 rfl rfl) rfl rfl (Ops_step (R_move rfl) rfl rfl ?_)))
  refine Ops_nil ?_
  refine then_n (k4 _ _ ?_)
  clear k4 K4
  refine W_block ?_
  refine Exists.elim h fun bn h => Exists.elim h fun bo h => ?_
  have a5 := h.1
  have a6 := h.2
  clear h
  refine W_loopB [7, 8] [3, 9] (fun m vals_ w2 => ∃ (ak : BitVec 32) (an : Int) (L H : Gh), vals_ = [w32 ak, vi an] ∧ bn m ak an ∧ Inv [] G w L H w2 ∧ Le Gh.no L ∧ Le G H ∧ True) bo _ rfl ⟨(4294967295#32), 0, _, _, rfl, a5, hI, Le.refl _, Le.refl _, trivial⟩ fun B_ b_ => ?_
  clear a5
  simp only [e_, Nat.reduceAdd, Nat.reduceBEq] at b_
  subst b_
  rintro bp _ bv ⟨ak, an, bg, bh, rfl, a7, a8, ah, ad, -⟩
  replace hI := a8
  clear a8
  have h := a6 bp ak an a7
  clear a6 a7
  replace hs0 := hs0.up ad
  replace ab := ab.trans ah
  replace ac := ac.trans ad
  refine W_seq_k fun K6 k6 => ?_
  refine W_region [10] rfl (Ops_step (R_lss rfl rfl) rfl rfl ?_)
  refine Ops_nil ?_
  refine then_n (k6 _ _ ?_)
  clear k6 K6
  refine W_seq_k fun K7 k7 => ?_
  refine W_if rfl (fun ay => ?_) (fun ay => ?_)
  ·
   replace h := h.1 ay
   refine W_skip ?_
   refine then_n (k7 _ _ ?_)
   clear k7 K7
   refine ex_ h fun bq az h => ?_
   refine W_seq_join [7, 8, 9] [3] (fun vals_ w2 => ∃ (ao : BitVec 32) (L H : Gh), vals_ = [w32 ao] ∧ bq ao ∧ Inv [] G w L H w2 ∧ Le bg L ∧ Le bh H ∧ True) (fun B_ b_ => ?_) (fun B_ b_ => ?_)
   ·
    simp only [e_, Nat.reduceAdd, Nat.reduceBEq] at b_
    subst b_
    clear az
    have ai := Le.refl bg
    have ae := Le.refl bh
    refine W_block ?_
    refine W_seq_k fun K10 k10 => ?_
    refine W_region [11, 12, 5] rfl ?_
    refine ex_ h fun a4 al h => ?_
    have a9 := (hs0.atS al).1
    have ba := (hs0.atS al).2
    refine Ops_step (R_indexSl Try.underlying29 sz5 rfl rfl al.1 al.lt a9) rfl rfl (Ops_step (R_load ag5 rfl (hI.st _ _ ba)) rfl rfl (Ops_step (R_assign rfl) rfl rfl ?_))
    refine Ops_nil ?_
    refine then_n (k10 _ _ ?_)
    clear k10 K10
    refine W_seq_k fun K12 k12 => ?_
    refine W_region [13, 14, 15, 16, 17, 3] rfl (Ops_step (R_move rfl) rfl rfl (Ops_step (R_move rfl) rfl rfl (Ops_step (R_conv Try.underlying5 Try.underlying124 rfl (c8_32 _)) rfl rfl (Ops_step (R_shl rfl rfl (by decide) (shl32 (a4.toBitVec.setWidth 32) 24 (by decide))) rfl rfl ?_))))
    refine Ops_step (R_xor rfl rfl (xor32 ak ((a4.toBitVec.setWidth 32) <<< (24 : Nat)))) rfl rfl (Ops_step (R_assign rfl) rfl rfl ?_)
    refine Ops_nil ?_
    refine then_n (k12 _ _ ?_)
    clear k12 K12
    refine W_keepB [3, 7, 8, 9] fun B_ b_ => ?_
    simp only [e_, Nat.reduceAdd, Nat.reduceBEq] at b_
    subst b_
    refine W_seq_k fun K14 k14 => ?_
    refine W_region [18] rfl (Ops_step (R_move rfl) rfl rfl ?_)
    refine Ops_nil ?_
    refine then_n (k14 _ _ ?_)
    clear k14 K14
    refine W_block ?_
    refine Exists.elim h fun bi h => Exists.elim h fun bj h => ?_
    have a5 := h.1
    have aq := h.2
    clear h
    refine W_loopB [7, 8, 9] [3, 18] (fun m vals_ w2 => ∃ (aa : BitVec 32) (af : Int) (L H : Gh), vals_ = [w32 aa, vi af] ∧ bi m aa af ∧ Inv [] G w L H w2 ∧ Le bg L ∧ Le bh H ∧ True) bj _ rfl ⟨(ak ^^^ ((a4.toBitVec.setWidth 32) <<< (24 : Nat))), 0, _, _, rfl, a5, hI, Le.refl _, Le.refl _, trivial⟩ fun B_ b_ => ?_
    clear a5
    simp only [e_, Nat.reduceAdd, Nat.reduceBEq] at b_
    subst b_
    rintro bl _ br ⟨aa, af, bt, bu, rfl, ar, au, aj, ag, -⟩
    replace hI := au
    clear au
    have h := aq bl aa af ar
    clear aq ar
    replace hs0 := hs0.up ag
    replace ab := ab.trans aj
    replace ac := ac.trans ag
    replace ah := ah.trans aj
    replace ad := ad.trans ag
    replace ai := ai.trans aj
    replace ae := ae.trans ag
    refine W_seq_k fun K16 k16 => ?_
    refine W_region [19] rfl (Ops_step (R_lss rfl rfl) rfl rfl ?_)
    refine Ops_nil ?_
    refine then_n (k16 _ _ ?_)
    clear k16 K16
    refine W_seq_k fun K17 k17 => ?_
    refine W_if rfl (fun ap => ?_) (fun ap => ?_)
    ·
     replace h := h.1 ap
     refine W_skip ?_
     refine then_n (k17 _ _ ?_)
     clear k17 K17
     refine W_seq_k fun K19 k19 => ?_
     refine W_block ?_
     refine W_seq_k fun K20 k20 => ?_
     refine W_region [20, 21, 6] rfl (Ops_step (R_move rfl) rfl rfl (Ops_step (R_shr rfl rfl (by decide) (shr32 aa 31 (by decide))) rfl rfl (Ops_step (R_assign rfl) rfl rfl ?_)))
     refine Ops_nil ?_
     refine then_n (k20 _ _ ?_)
     clear k20 K20
     refine W_region [22, 23, 24, 25, 26, 3] rfl (Ops_step (R_move rfl) rfl rfl (Ops_step (R_shl rfl rfl (by decide) (shl32 aa 1 (by decide))) rfl rfl (Ops_step (R_move rfl) rfl rfl (Ops_step (R_mul rfl rfl (mul32 (aa >>> (31 : Nat)) (2168537515#32))) rfl rfl ?_))))
     refine Ops_step (R_xor rfl rfl (xor32 (aa <<< (1 : Nat)) ((aa >>> (31 : Nat)) * (2168537515#32)))) rfl rfl (Ops_step (R_assign rfl) rfl rfl ?_)
     refine Ops_nil ?_
     refine block_n ?_
     refine then_n (k19 _ _ ?_)
     clear k19 K19
     refine W_keepB [3, 7, 8, 9, 18] fun B_ b_ => ?_
     simp only [e_, Nat.reduceAdd, Nat.reduceBEq] at b_
     subst b_
     refine W_region [27, 18] rfl ?_
     have av := h.1
     replace h := h.2
     refine Ops_step (R_add rfl rfl (wI av.1 av.2)) rfl rfl (Ops_step (R_move rfl) rfl rfl ?_)
     refine Ops_nil ?_
     refine then_n ?_
     exact h.elim fun m_ h => ⟨m_, _, h.1, rfl, ⟨((aa <<< (1 : Nat)) ^^^ ((aa >>> (31 : Nat)) * (2168537515#32))), (af + 1), _, _, rfl, h.2, hI, aj, ag, trivial⟩, ⟨rfl, rfl, rfl, trivial⟩⟩
    ·
     replace h := h.2 ap
     refine W_exit ?_
     refine then_exit ?_
     clear k17 K17
     refine then_exit ?_
     refine block_exit ?_
     refine block_n ?_
     refine then_n ?_
     exact ⟨_, rfl, ⟨aa, _, _, rfl, h, hI, ai, ae, trivial⟩, ⟨rfl, rfl, rfl, trivial⟩⟩
   ·
    simp only [e_, Nat.reduceAdd, Nat.reduceBEq] at b_
    subst b_
    clear h
    rintro _ bw ⟨ao, bx, bz, rfl, bc, bd, ai, ae, -⟩
    replace hI := bd
    clear bd
    have h := az ao bc
    clear az bc
    replace hs0 := hs0.up ae
    replace ab := ab.trans ai
    replace ac := ac.trans ae
    replace ah := ah.trans ai
    replace ad := ad.trans ae
    refine W_region [28, 9] rfl ?_
    have aw := h.1
    replace h := h.2
    refine Ops_step (R_add rfl rfl (wI aw.1 aw.2)) rfl rfl (Ops_step (R_move rfl) rfl rfl ?_)
    refine Ops_nil ?_
    refine then_n ?_
    exact h.elim fun m_ h => ⟨m_, _, h.1, rfl, ⟨ao, (an + 1), _, _, rfl, h.2, hI, ah, ad, trivial⟩, ⟨rfl, rfl, trivial⟩⟩
  ·
   replace h := h.2 ay
   refine W_exit ?_
   refine then_exit ?_
   clear k7 K7
   refine then_exit ?_
   refine block_exit ?_
   refine then_n ?_
   exact ⟨_, rfl, ⟨ak, _, _, rfl, h, hI, ab, ac, trivial⟩, trivial⟩
 ·
  simp only [e_, Nat.reduceAdd, Nat.reduceBEq] at b_
  subst b_
  clear h
  rintro _ b4 ⟨am, b5, b6, rfl, be, bf, ab, ac, -⟩
  replace hI := bf
  clear bf
  have h := ax am be
  clear ax be
  refine W_seq_k fun K24 k24 => ?_
  refine W_region [29, 2] rfl (Ops_step (R_move rfl) rfl rfl (Ops_step (R_assign rfl) rfl rfl ?_))
  refine Ops_nil ?_
  refine then_n (k24 _ _ ?_)
  clear k24 K24
  refine W_ret ?_
  refine ⟨_, ⟨_, _, rfl, rfl, rfl⟩, ?_⟩
  exact ⟨am, _, _, rfl, hI, h⟩

theorem octet_Open_ok {G : Gh} {w : World} (hS : St G w) (hg : GL G) {A0 : Option Addr} {c0 : Nat} {x0 : List UInt8} (hc0 : x0.length ≤ c0) (hs0 : Sl G A0 x0) {Q : (List UInt8) → Int → Int → Prop} (h : octet_Open x0 Q) : Calls Try.prog 80 #[.slice A0 x0.length c0] w fun e w2 => ∃ (A0 : Option Addr) (c0 : Nat) (r0 : List UInt8) (r1 : Int) (r2 : Int) (L H : Gh), e = .returned (.tuple #[.slice A0 r0.length c0, vi r1, vi r2]) ∧ Inv [] G w L H w2 ∧ OwnS w.heap.size 5 L H w2 A0 c0 r0 ∧ Q r0 r1 r2 := by
 unfold octet_Open at h
 have hI := Inv.start (M := []) hS
 refine calls_W 71 Try.func80 rfl Try.ntmps80 rfl [.tmp 2, .tmp 3, .tmp 4] rfl ?_
 refine W_seq_k fun K1 k1 => ?_
 refine W_region [2, 3, 4] rfl (Ops_step (R_assign rfl) rfl rfl (Ops_step (R_assign rfl) rfl rfl (Ops_step (R_assign rfl) rfl rfl ?_)))
 refine Ops_nil ?_
 refine then_n (k1 _ _ ?_)
 clear k1 K1
 refine W_seq_k fun K2 k2 => ?_
 refine W_region [10, 11, 5] rfl (Ops_step (R_move rfl) rfl rfl ?_)
 refine Ops_call (C_func bd67 rfl) rfl rfl ?_
 refine (octet_Read_ok (x0 := x0) hI.st (hg.up hI.le) hc0 hs0 h).mono ?_
 rintro _ eu ⟨dv, bx, cv, cw, ew, ex, rfl, bz, ae, ar, au, ag, h⟩
 have bu := ae
 replace ae := Nat.le_trans hI.size ae
 refine Exists.elim (hI.call bz (by simp)) fun c8 cx => ?_
 have dw := hI.size
 replace hI := cx.1
 have di := cx.2.1
 have c9 := cx.2.2
 clear cx
 replace hs0 := hs0.up di.hh
 clear bz di c9
 refine ⟨_, rfl, ?_⟩
 refine Ops_step (R_assign rfl) rfl rfl ?_
 refine Ops_nil ?_
 refine then_n (k2 _ _ ?_)
 clear k2 K2
 refine W_seq_k fun K4 k4 => ?_
 refine W_region [12, 13, 6] rfl (Ops_step (R_move rfl) rfl rfl ?_)
 refine Ops_call (C_func bd85 rfl) rfl rfl ?_
 refine (octet_Reader_Bytes_ok (x1 := 16384) (z0 := bx) hI.st (hg.up hI.le) ar au ag h).mono ?_
 rintro _ ey ⟨b4, b5, b6, ak, cy, cz, ez, e5, rfl, b7, ab, ac, af, aa, h⟩
 refine Exists.elim (hI.call b7 (new1 ae)) fun dx c5 => ?_
 have da := hI.size
 replace hI := c5.1
 have db := c5.2.1
 have dc := c5.2.2
 clear c5
 replace hs0 := hs0.up db.hh
 replace ag := ag.up db.hh
 clear ar
 replace ab := OwnS.backS ab da (Le.refl _)
 clear b7 db dc
 refine ⟨_, rfl, ?_⟩
 refine Ops_step (R_assign rfl) rfl rfl ?_
 refine Ops_nil ?_
 refine then_n (k4 _ _ ?_)
 clear k4 K4
 refine W_keepB [0, 5, 6] fun B_ b_ => ?_
 simp only [e_, Nat.reduceAdd, Nat.reduceBEq] at b_
 subst b_
 refine W_seq_k fun K7 k7 => ?_
 refine W_seq_k fun K8 k8 => ?_
 refine W_region [14, 15, 16] rfl (Ops_step (R_move rfl) rfl rfl ?_)
 refine Ops_call (C_func bd83 rfl) rfl rfl ?_
 refine (octet_Reader_Err_ok (z0 := ak) hI.st (hg.up hI.le) ac af aa h).mono ?_
 rintro _ e8 ⟨dy, e9, fa, rfl, b8, h⟩
 refine Exists.elim (hI.call b8 (by simp)) fun dz c6 => ?_
 have d5 := hI.size
 replace hI := c6.1
 have b9 := c6.2.1
 have dd := c6.2.2
 clear c6
 replace hs0 := hs0.up b9.hh
 replace ac := ac.up b9 (by simp)
 replace aa := aa.up b9.hh
 replace ab := ab.up (Le.refl _) b9 (by simp)
 clear b8 b9 dd
 refine ⟨_, rfl, ?_⟩
 refine Ops_step (R_neq rfl rfl) rfl rfl ?_
 refine Ops_nil ?_
 refine then_n (k8 _ _ ?_)
 clear k8 K8
 refine W_if rfl (fun av => ?_) (fun av => ?_)
 ·
  replace h := h.1 av
  refine W_seq_k fun K11 k11 => ?_
  refine W_region [17, 18, 2, 3, 4] rfl (Ops_step (R_move rfl) rfl rfl ?_)
  refine Ops_call (C_func bd83 rfl) rfl rfl ?_
  refine (octet_Reader_Err_ok (z0 := ak) hI.st (hg.up hI.le) ac af aa h).mono ?_
  rintro _ d6 ⟨ca, d7, d8, rfl, be, h⟩
  refine Exists.elim (hI.call be (by simp)) fun dj a8 => ?_
  have dk := hI.size
  replace hI := a8.1
  have br := a8.2.1
  have cb := a8.2.2
  clear a8
  replace ac := ac.up br (by simp)
  replace aa := aa.up br.hh
  clear be br cb
  refine ⟨_, rfl, ?_⟩
  refine Ops_step (R_assign rfl) rfl rfl (Ops_step (R_assign rfl) rfl rfl (Ops_step (R_assign rfl) rfl rfl ?_))
  refine Ops_nil ?_
  refine then_n (k11 _ _ ?_)
  clear k11 K11
  refine W_keepB [2, 3, 4] fun B_ b_ => ?_
  simp only [e_, Nat.reduceAdd, Nat.reduceBEq] at b_
  subst b_
  refine W_ret ?_
  refine then_ret ?_
  clear k7 K7
  refine ⟨_, ⟨_, _, rfl, rfl, ⟨_, _, rfl, rfl, ⟨_, _, rfl, rfl, rfl⟩⟩⟩, ?_⟩
  exact ⟨none, 0, [], 0, ca, _, _, rfl, hI, OwnS.nil, h⟩
 ·
  replace h := h.2 av
  refine W_skip ?_
  refine then_n (k7 _ _ ?_)
  clear k7 K7
  refine W_seq_k fun K14 k14 => ?_
  refine W_region [19, 20, 21, 22, 23, 7] rfl (Ops_step (R_move rfl) rfl rfl (Ops_step (R_len Try.underlying29 rfl rfl) rfl rfl (Ops_step (R_move rfl) rfl rfl ?_)))
  refine Ops_call (C_func bd90 rfl) rfl rfl ?_
  refine (octet_Reader_Left_ok (z0 := ak) hI.st (hg.up hI.le) ac af aa h).mono ?_
  rintro _ d9 ⟨aw, ea, eb, rfl, bf, h⟩
  refine Exists.elim (hI.call bf (by simp)) fun dl a9 => ?_
  have dm := hI.size
  replace hI := a9.1
  have ax := a9.2.1
  have cc := a9.2.2
  clear a9
  replace hs0 := hs0.up ax.hh
  replace ac := ac.up ax (by simp)
  replace aa := aa.up ax.hh
  replace ab := ab.up (Le.refl _) ax (by simp)
  clear bf ax cc
  refine ⟨_, rfl, ?_⟩
  have bg := h.1
  replace h := h.2
  refine Ops_step (R_sub rfl rfl (wI bg.1 bg.2)) rfl rfl (Ops_step (R_assign rfl) rfl rfl ?_)
  refine Ops_nil ?_
  refine then_n (k14 _ _ ?_)
  clear k14 K14
  refine W_keepB [0, 5, 6, 7] fun B_ b_ => ?_
  simp only [e_, Nat.reduceAdd, Nat.reduceBEq] at b_
  subst b_
  refine W_seq_k fun K18 k18 => ?_
  refine W_region [24, 25, 26, 27, 8] rfl (Ops_step (R_move rfl) rfl rfl (Ops_step (R_nilCheck rfl) rfl rfl (Ops_step (R_fieldAddr fo120_0 rfl) rfl rfl ?_)))
  refine Ops_call (C_func bd91 rfl) rfl rfl ?_
  refine (octet_source_take_ok (x1 := 4) (z0 := ak.source_) hI.st (hg.up hI.le) ac af aa h).mono ?_
  rintro _ ec ⟨dn, dp, dq, de, cd, ce, ee, eg, rfl, bh, df, ad, c7, bv, bw, h⟩
  refine Exists.elim (hI.call bh (new1 ae)) fun dr ba => ?_
  have dt := hI.size
  replace hI := ba.1
  have bc := ba.2.1
  have cf := ba.2.2
  clear ba
  replace hs0 := hs0.up bc.hh
  replace aa := aa.up bc.hh
  replace ab := ab.up (Le.refl _) bc (ab.ne ac.blk (by decide))
  clear ac
  replace ad := ad.up (Le.refl _)
  clear bh bc cf
  refine ⟨_, rfl, ?_⟩
  refine Ops_step (R_assign rfl) rfl rfl ?_
  refine Ops_nil ?_
  refine then_n (k18 _ _ ?_)
  clear k18 K18
  refine W_seq_k fun K20 k20 => ?_
  refine W_seq_k fun K21 k21 => ?_
  refine W_region [28, 29, 30] rfl (Ops_step (R_move rfl) rfl rfl (Ops_step (R_len Try.underlying29 rfl rfl) rfl rfl (Ops_step (R_lss rfl rfl) rfl rfl ?_)))
  refine Ops_nil ?_
  refine then_n (k21 _ _ ?_)
  clear k21 K21
  refine W_keepB [0, 6, 7, 8, 30] fun B_ b_ => ?_
  simp only [e_, Nat.reduceAdd, Nat.reduceBEq] at b_
  subst b_
  refine W_if rfl (fun ay => ?_) (fun ay => ?_)
  ·
   replace h := h.1 ay
   refine W_seq_k fun K24 k24 => ?_
   refine W_region [2, 3, 4] rfl (Ops_step (R_assign rfl) rfl rfl (Ops_step (R_assign rfl) rfl rfl (Ops_step (R_assign rfl) rfl rfl ?_)))
   refine Ops_nil ?_
   refine then_n (k24 _ _ ?_)
   clear k24 K24
   refine W_ret ?_
   refine then_ret ?_
   clear k20 K20
   refine ⟨_, ⟨_, _, rfl, rfl, ⟨_, _, rfl, rfl, ⟨_, _, rfl, rfl, rfl⟩⟩⟩, ?_⟩
   exact ⟨none, 0, [], 0, 2, _, _, rfl, hI, OwnS.nil, h⟩
  ·
   replace h := h.2 ay
   refine W_skip ?_
   refine then_n (k20 _ _ ?_)
   clear k20 K20
   refine W_seq_k fun K25 k25 => ?_
   refine W_seq_k fun K26 k26 => ?_
   refine W_region [31, 32, 33, 34, 9] rfl (Ops_step (R_move rfl) rfl rfl (Ops_step (R_move rfl) rfl rfl ?_))
   have bi := h.1
   replace h := h.2
   have bj := h.1
   replace h := h.2
   refine Exists.elim (cut_ex (n := 1) (l := 0) (h := ((x0.length : Int) - aw)) hs0 rfl (by decide) hc0 (Int.le_refl 0) bi bj) fun eh aq => Exists.elim aq fun ei aq => ?_
   have bl := aq.1
   have cg := aq.2.1
   have ci := aq.2.2
   clear aq
   refine Ops_step (X_slice (xs := x0) Try.underlying29 sz5 rfl bl hc0 rfl rfl (Int.le_refl 0) bi bj) rfl rfl ?_
   clear bl
   refine Ops_call (C_func bd89 rfl) rfl rfl ?_
   refine (octet_Sum_ok (x0 := (cut x0 0 ((x0.length : Int) - aw))) hI.st (hg.up hI.le) cg ci h).mono ?_
   rintro _ ej ⟨al, c8, cj, rfl, bm, h⟩
   refine Exists.elim (hI.call bm (by simp)) fun bn bd => ?_
   have du := hI.size
   replace hI := bd.1
   have bt := bd.2.1
   have ck := bd.2.2
   clear bd
   replace ab := ab.up (Le.refl _) bt (by simp)
   replace ad := ad.up bt.hh
   clear bm bt ck
   refine ⟨_, rfl, ?_⟩
   refine Ops_step (R_assign rfl) rfl rfl ?_
   refine Ops_nil ?_
   refine then_n (k26 _ _ ?_)
   clear k26 K26
   refine W_keepB [6, 7, 8, 9] fun B_ b_ => ?_
   simp only [e_, Nat.reduceAdd, Nat.reduceBEq] at b_
   subst b_
   refine ex_ h fun dg az h => ?_
   refine W_seq_join [6, 7] [67] (fun vals_ w2 => ∃ (aj : Bool) (L H : Gh), vals_ = [.bool aj] ∧ dg aj ∧ Inv [] G w L H w2 ∧ Le bn L ∧ Le cj H ∧ OwnS w.heap.size 5 Gh.no H w2 b4 b5 b6 ∧ True) (fun B_ b_ => ?_) (fun B_ b_ => ?_)
   ·
    simp only [e_, Nat.reduceAdd, Nat.reduceBEq] at b_
    subst b_
    clear az
    have ah := Le.refl bn
    have ai := Le.refl cj
    refine W_region [35, 36, 37, 38, 39, 40, 41, 42, 43, 44, 45, 46, 47, 48, 49, 50, 51, 52, 53, 54, 55, 56, 57, 58, 59, 60, 61, 62, 63, 64, 65, 66, 67] rfl (Ops_step (R_move rfl) rfl rfl (Ops_step (R_shr rfl rfl (by decide) (shr32 al 24 (by decide))) rfl rfl (Ops_step (R_conv Try.underlying124 Try.underlying5 rfl (c32_8 _)) rfl rfl (Ops_step (R_move rfl) rfl rfl ?_))))
    refine ex_ h fun ek am h => ?_
    have cl := (ad.atS am).1
    have cm := (ad.atS am).2
    refine Ops_step (R_indexSl Try.underlying29 sz5 rfl rfl am.1 am.lt cl) rfl rfl (Ops_step (R_load ag5 rfl (hI.st _ _ cm)) rfl rfl (Ops_step (R_neq rfl rfl) rfl rfl (Ops_step (R_move rfl) rfl rfl ?_)))
    refine Ops_split 42 rfl (fun a4 => ?_) (fun a4 => ?_)
    ·
     replace h := h.1 a4
     refine Ops_pass rfl rfl (Ops_pass rfl rfl (Ops_pass rfl rfl (Ops_pass rfl rfl (Ops_pass rfl rfl ?_))))
     refine Ops_pass rfl rfl (Ops_pass rfl rfl (Ops_step (R_pick_true rfl rfl) rfl rfl (Ops_step (R_move rfl) rfl rfl (Ops_pass rfl rfl ?_))))
     refine Ops_pass rfl rfl (Ops_pass rfl rfl (Ops_pass rfl rfl (Ops_pass rfl rfl (Ops_pass rfl rfl ?_))))
     refine Ops_pass rfl rfl (Ops_step (R_pick_true rfl rfl) rfl rfl (Ops_step (R_move rfl) rfl rfl (Ops_pass rfl rfl (Ops_pass rfl rfl ?_))))
     refine Ops_pass rfl rfl (Ops_pass rfl rfl (Ops_pass rfl rfl (Ops_pass rfl rfl (Ops_step (R_pick_true rfl rfl) rfl rfl ?_))))
     refine Ops_nil ?_
     refine then_n ?_
     exact ⟨_, rfl, ⟨true, _, _, rfl, h, hI, ah, ai, ab, trivial⟩, ⟨rfl, rfl, trivial⟩⟩
    ·
     replace h := h.2 a4
     refine Ops_step (R_move rfl) rfl rfl (Ops_step (R_shr rfl rfl (by decide) (shr32 al 16 (by decide))) rfl rfl (Ops_step (R_conv Try.underlying124 Try.underlying5 rfl (c32_8 _)) rfl rfl (Ops_step (R_move rfl) rfl rfl ?_)))
     refine ex_ h fun en an h => ?_
     have co := (ad.atS an).1
     have cp := (ad.atS an).2
     refine Ops_step (R_indexSl Try.underlying29 sz5 rfl rfl an.1 an.lt co) rfl rfl (Ops_step (R_load ag5 rfl (hI.st _ _ cp)) rfl rfl (Ops_step (R_neq rfl rfl) rfl rfl (Ops_step (R_pick_false rfl rfl) rfl rfl (Ops_step (R_move rfl) rfl rfl ?_))))
     refine Ops_split 51 rfl (fun a5 => ?_) (fun a5 => ?_)
     ·
      replace h := h.1 a5
      refine Ops_pass rfl rfl (Ops_pass rfl rfl (Ops_pass rfl rfl (Ops_pass rfl rfl (Ops_pass rfl rfl ?_))))
      refine Ops_pass rfl rfl (Ops_pass rfl rfl (Ops_step (R_pick_true rfl rfl) rfl rfl (Ops_step (R_move rfl) rfl rfl (Ops_pass rfl rfl ?_))))
      refine Ops_pass rfl rfl (Ops_pass rfl rfl (Ops_pass rfl rfl (Ops_pass rfl rfl (Ops_pass rfl rfl ?_))))
      refine Ops_step (R_pick_true rfl rfl) rfl rfl ?_
      refine Ops_nil ?_
      refine then_n ?_
      exact ⟨_, rfl, ⟨true, _, _, rfl, h, hI, ah, ai, ab, trivial⟩, ⟨rfl, rfl, trivial⟩⟩
     ·
      replace h := h.2 a5
      refine Ops_step (R_move rfl) rfl rfl (Ops_step (R_shr rfl rfl (by decide) (shr32 al 8 (by decide))) rfl rfl (Ops_step (R_conv Try.underlying124 Try.underlying5 rfl (c32_8 _)) rfl rfl (Ops_step (R_move rfl) rfl rfl ?_)))
      refine ex_ h fun eo ao h => ?_
      have cq := (ad.atS ao).1
      have cr := (ad.atS ao).2
      refine Ops_step (R_indexSl Try.underlying29 sz5 rfl rfl ao.1 ao.lt cq) rfl rfl (Ops_step (R_load ag5 rfl (hI.st _ _ cr)) rfl rfl (Ops_step (R_neq rfl rfl) rfl rfl (Ops_step (R_pick_false rfl rfl) rfl rfl (Ops_step (R_move rfl) rfl rfl ?_))))
      refine Ops_split 60 rfl (fun a6 => ?_) (fun a6 => ?_)
      ·
       replace h := h.1 a6
       refine Ops_pass rfl rfl (Ops_pass rfl rfl (Ops_pass rfl rfl (Ops_pass rfl rfl (Ops_pass rfl rfl ?_))))
       refine Ops_pass rfl rfl (Ops_step (R_pick_true rfl rfl) rfl rfl ?_)
       refine Ops_nil ?_
       refine then_n ?_
       exact ⟨_, rfl, ⟨true, _, _, rfl, h, hI, ah, ai, ab, trivial⟩, ⟨rfl, rfl, trivial⟩⟩
      ·
       replace h := h.2 a6
       refine Ops_step (R_move rfl) rfl rfl (Ops_step (R_conv Try.underlying124 Try.underlying5 rfl (c32_8 _)) rfl rfl (Ops_step (R_move rfl) rfl rfl ?_))
       refine ex_ h fun dh ap h => ?_
       have ct := (ad.atS ap).1
       have cu := (ad.atS ap).2
       refine Ops_step (R_indexSl Try.underlying29 sz5 rfl rfl ap.1 ap.lt ct) rfl rfl (Ops_step (R_load ag5 rfl (hI.st _ _ cu)) rfl rfl (Ops_step (R_neq rfl rfl) rfl rfl (Ops_step (R_pick_false rfl rfl) rfl rfl ?_)))
       refine Ops_nil ?_
       refine then_n ?_
       exact ⟨_, rfl, ⟨(decide (((UInt8.ofBitVec (al.setWidth 8)).toNat : Int) ≠ (dh.toNat : Int))), _, _, rfl, h, hI, ah, ai, ab, trivial⟩, ⟨rfl, rfl, trivial⟩⟩
   ·
    simp only [e_, Nat.reduceAdd, Nat.reduceBEq] at b_
    subst b_
    clear h
    clear ab
    rintro _ ep ⟨aj, eq, et, rfl, bo, bp, ah, ai, ab, -⟩
    replace hI := bp
    clear bp
    have h := az aj bo
    clear az bo
    refine W_cond rfl (fun a7 => ?_) (fun a7 => ?_)
    ·
     replace h := h.1 a7
     refine W_seq_k fun K41 k41 => ?_
     refine W_region [2, 3, 4] rfl (Ops_step (R_assign rfl) rfl rfl (Ops_step (R_assign rfl) rfl rfl (Ops_step (R_assign rfl) rfl rfl ?_)))
     refine Ops_nil ?_
     refine then_n (k41 _ _ ?_)
     clear k41 K41
     refine W_ret ?_
     refine then_ret ?_
     clear k25 K25
     refine ⟨_, ⟨_, _, rfl, rfl, ⟨_, _, rfl, rfl, ⟨_, _, rfl, rfl, rfl⟩⟩⟩, ?_⟩
     exact ⟨none, 0, [], 0, 20, _, _, rfl, hI, OwnS.nil, h⟩
    ·
     replace h := h.2 a7
     refine W_skip ?_
     refine then_n (k25 _ _ ?_)
     clear k25 K25
     refine W_seq_k fun K42 k42 => ?_
     refine W_region [68, 69, 70, 2, 3, 4] rfl (Ops_step (R_move rfl) rfl rfl (Ops_step (R_move rfl) rfl rfl ?_))
     have bq := h.1
     replace h := h.2
     refine Ops_step (R_add rfl rfl (wI bq.1 bq.2)) rfl rfl (Ops_step (R_assign rfl) rfl rfl (Ops_step (R_assign rfl) rfl rfl (Ops_step (R_assign rfl) rfl rfl ?_)))
     refine Ops_nil ?_
     refine then_n (k42 _ _ ?_)
     clear k42 K42
     refine W_keepB [2, 3, 4] fun B_ b_ => ?_
     simp only [e_, Nat.reduceAdd, Nat.reduceBEq] at b_
     subst b_
     refine W_ret ?_
     refine ⟨_, ⟨_, _, rfl, rfl, ⟨_, _, rfl, rfl, ⟨_, _, rfl, rfl, rfl⟩⟩⟩, ?_⟩
     exact ⟨b4, b5, b6, (((x0.length : Int) - aw) + 4), 0, _, _, rfl, hI, (ab.hl (Le.no _)), h⟩

end Go.Proofs.Ytkmljjhjojolcaa

