/- What is shown of the program on the way to the law. -/
import Derived.Test.YtkmljjhjojolcaaZp3
import Derived.Test.YtkmljjhjojolcaaZp4
import Derived.Test.YtkmljjhjojolcaaZp5
import Derived.Test.YtkmljjhjojolcaaZp7
import Derived.Test.YtkmljjhjojolcaaZp8
import Derived.Test.YtkmljjhjojolcaaZp15
import Derived.Test.YtkmljjhjojolcaaZp17
import Derived.Test.YtkmljjhjojolcaaProg
set_option linter.unusedVariables false
set_option linter.unusedSimpArgs false
set_option maxHeartbeats 4000000
namespace Go.Proofs.Ytkmljjhjojolcaa
open Go Go.Sx Go.Lx
namespace TJtL
theorem hm : Try.prog.follows .mixedOrders = true := by kernel_rfl
theorem ag25 : aggB Try.prog 25 = some false := by kernel_rfl
theorem ag26 : aggB Try.prog 26 = some false := by kernel_rfl
theorem ag3 : aggB Try.prog 3 = some false := by kernel_rfl
theorem ag4 : aggB Try.prog 4 = some false := by kernel_rfl
theorem ag41 : aggB Try.prog 41 = some false := by kernel_rfl
theorem ag85 : aggB Try.prog 85 = some true := by kernel_rfl
theorem bd14 : bodied Try.prog 14 = true := by kernel_rfl
theorem bd26 : bodied Try.prog 26 = true := by kernel_rfl
theorem bd39 : bodied Try.prog 39 = true := by kernel_rfl
theorem bd40 : bodied Try.prog 40 = true := by kernel_rfl
theorem bd41 : bodied Try.prog 41 = true := by kernel_rfl
theorem bd42 : bodied Try.prog 42 = true := by kernel_rfl
theorem bd43 : bodied Try.prog 43 = true := by kernel_rfl
theorem bd44 : bodied Try.prog 44 = true := by kernel_rfl
theorem bd45 : bodied Try.prog 45 = true := by kernel_rfl
theorem bd48 : bodied Try.prog 48 = true := by kernel_rfl
theorem el29 : Elem Try.prog 29 5 1 1 := Elem.of (by kernel_rfl)
theorem fo44_0 : offB Try.prog 44 0 = some 0 := by kernel_rfl
theorem fo46_0 : offB Try.prog 46 0 = some 0 := by kernel_rfl
theorem fo46_1 : offB Try.prog 46 1 = some 2 := by kernel_rfl
theorem fo46_2 : offB Try.prog 46 2 = some 3 := by kernel_rfl
theorem fo46_3 : offB Try.prog 46 3 = some 4 := by kernel_rfl
theorem fo53_2 : offB Try.prog 53 2 = some 4 := by kernel_rfl
theorem fo53_3 : offB Try.prog 53 3 = some 5 := by kernel_rfl
theorem fo53_4 : offB Try.prog 53 4 = some 6 := by kernel_rfl
theorem fo81_2 : offB Try.prog 81 2 = some 4 := by kernel_rfl
theorem fo81_3 : offB Try.prog 81 3 = some 5 := by kernel_rfl
theorem pl44 : partPl Try.prog 44 = some [(0, 1), (1, 1)] := by kernel_rfl
theorem pl46 : partPl Try.prog 46 = some [(0, 2), (2, 1), (3, 1), (4, 1)] := by kernel_rfl
theorem sz26 : sz Try.prog 26 = some 1 := by kernel_rfl
theorem sz3 : sz Try.prog 3 = some 1 := by kernel_rfl
theorem sz4 : sz Try.prog 4 = some 1 := by kernel_rfl
theorem sz41 : sz Try.prog 41 = some 1 := by kernel_rfl
theorem sz85 : sz Try.prog 85 = some 2 := by kernel_rfl
theorem zr26 : zr Try.prog 26 = some ([.pointer none]) := by kernel_rfl
theorem zr41 : zr Try.prog 41 = some ([.slice none 0 0]) := by kernel_rfl
theorem zr44 : zr Try.prog 44 = some ([.slice none 0 0] ++ [.map none]) := by kernel_rfl
theorem zr46 : zr Try.prog 46 = some ([.slice none 0 0] ++ [.map none] ++ [.pointer none] ++ [.int .i64 0] ++ [.int .i64 0]) := by kernel_rfl
theorem zr85 : zr Try.prog 85 = some ([.int .i64 0] ++ [.slice none 0 0]) := by kernel_rfl
end TJtL
open TJtL
theorem disk_Disk_Crash_ok {G : Gh} {w : World} (hS : St G w) (hg : GL G) {d0 : Nat} {z0 : disk_Disk} {ab : Option Addr} {ac : Nat} {ad : Option Addr} {ae : Nat} {af : Option Addr} {ag : Nat} (aa : Tok G w d0 53 ([.slice ab z0.files_.e0_.length ac, .slice ad z0.files_.e1_.length ae, .slice af z0.files_.e2_.length ag, vi z0.room_, .bool z0.off_, .bool z0.armed_, vi z0.left_])) (ak : z0.files_.e0_.length ≤ ac) (ah : Sl G ab z0.files_.e0_) (al : z0.files_.e1_.length ≤ ae) (ai : Sl G ad z0.files_.e1_) (am : z0.files_.e2_.length ≤ ag) (aj : Sl G af z0.files_.e2_) {Q : Int → disk_Disk → Prop} (h : disk_Disk_Crash z0 Q) : Calls Try.prog 34 #[.pointer (some ⟨d0, 0, none⟩)] w fun e w2 => ∃ (r0 : Int) (y0 : disk_Disk) (an : Option Addr) (ao : Nat) (ap : Option Addr) (aq : Nat) (ar : Option Addr) (au : Nat) (L H : Gh), e = .returned (vi r0) ∧ Inv [d0] G w L H w2 ∧ Tok H w2 d0 53 ([.slice an y0.files_.e0_.length ao, .slice ap y0.files_.e1_.length aq, .slice ar y0.files_.e2_.length au, vi y0.room_, .bool y0.off_, .bool y0.armed_, vi y0.left_]) ∧ y0.files_.e0_.length ≤ ao ∧ Sl H an y0.files_.e0_ ∧ y0.files_.e1_.length ≤ aq ∧ Sl H ap y0.files_.e1_ ∧ y0.files_.e2_.length ≤ au ∧ Sl H ar y0.files_.e2_ ∧ Q r0 y0 := by
 unfold disk_Disk_Crash at h
 have hI := Inv.start (M := [d0]) hS
 refine calls_W 18 Try.func34 rfl Try.ntmps34 rfl [.tmp 2] rfl ?_
 have a9 := aa.blk.lt
 refine W_seq_k fun K1 k1 => ?_
 refine W_region [2] rfl (Ops_step (R_assign rfl) rfl rfl ?_)
 refine Ops_nil ?_
 refine then_n (k1 _ _ ?_)
 clear k1 K1
 refine W_seq_k fun K2 k2 => ?_
 refine W_seq_k fun K3 k3 => ?_
 refine W_region [4, 5, 3] rfl (Ops_step (R_move rfl) rfl rfl ?_)
 refine Ops_call (C_func bd48 rfl) rfl rfl ?_
 refine (disk_Disk_able_ok (x1 := 0) (z0 := z0) hI.st (hg.up hI.le) aa ak ah al ai am aj h).mono ?_
 rintro _ bj ⟨ba, bl, bc, rfl, a6, h⟩
 refine Exists.elim (hI.call a6 (by simp)) fun be a8 => ?_
 have bf := hI.size
 replace hI := a8.1
 have a7 := a8.2.1
 have bd := a8.2.2
 clear a8
 replace ah := ah.up a7.hh
 replace ai := ai.up a7.hh
 replace aj := aj.up a7.hh
 replace aa := aa.up a7 (by simp)
 clear a6 a7 bd
 refine ⟨_, rfl, ?_⟩
 refine Ops_step (R_assign rfl) rfl rfl ?_
 refine Ops_nil ?_
 refine then_n (k3 _ _ ?_)
 clear k3 K3
 refine W_seq_k fun K5 k5 => ?_
 refine W_region [6, 7] rfl (Ops_step (R_move rfl) rfl rfl (Ops_step (R_neq rfl rfl) rfl rfl ?_))
 refine Ops_nil ?_
 refine then_n (k5 _ _ ?_)
 clear k5 K5
 refine W_if rfl (fun a5 => ?_) (fun a5 => ?_)
 ·
  replace h := h.1 a5
  refine W_seq_k fun K7 k7 => ?_
  refine W_region [8, 2] rfl (Ops_step (R_move rfl) rfl rfl (Ops_step (R_assign rfl) rfl rfl ?_))
  refine Ops_nil ?_
  refine then_n (k7 _ _ ?_)
  clear k7 K7
  refine W_keepB [2] fun B_ b_ => ?_
  simp only [e_, Nat.reduceAdd, Nat.reduceBEq] at b_
  subst b_
  refine W_ret ?_
  refine then_ret ?_
  clear k2 K2
  refine ⟨_, ⟨_, _, rfl, rfl, rfl⟩, ?_⟩
  exact ⟨ba, z0, ab, ac, ad, ae, af, ag, _, _, rfl, hI, aa, ak, ah, al, ai, am, aj, h⟩
 ·
  replace h := h.2 a5
  refine W_skip ?_
  refine then_n (k2 _ _ ?_)
  clear k2 K2
  refine W_keepB [0] fun B_ b_ => ?_
  simp only [e_, Nat.reduceAdd, Nat.reduceBEq] at b_
  subst b_
  refine W_seq_k fun K10 k10 => ?_
  refine W_region [9, 10, 11, 12, 13, none, 14, 15, none, 16, 17, none] rfl (Ops_step (R_move rfl) rfl rfl (Ops_step (R_move rfl) rfl rfl (Ops_step (R_move rfl) rfl rfl (Ops_step (R_nilCheck rfl) rfl rfl ?_))))
  refine Ops_step (R_fieldAddr fo53_2 rfl) rfl rfl ?_
  refine Ops_to0 (R_store sz4 rfl rfl aa.blk (by show 4 < 7; decide) rfl) rfl ?_
  rintro _ bg ⟨av, aw⟩
  replace hI := hI.tok aw (out1 aa.out) (mem1 (by simp))
  replace aa : Tok bc _ d0 53 ([.slice ab z0.files_.e0_.length ac, .slice ad z0.files_.e1_.length ae, .slice af z0.files_.e2_.length ag, vi z0.room_, .bool true, .bool z0.armed_, vi z0.left_]) := ⟨av, aa.out⟩
  clear aw av
  refine Ops_step (R_nilCheck rfl) rfl rfl (Ops_step (R_fieldAddr fo53_3 rfl) rfl rfl ?_)
  refine Ops_to0 (R_store sz4 rfl rfl aa.blk (by show 5 < 7; decide) rfl) rfl ?_
  rintro _ bh ⟨ax, ay⟩
  replace hI := hI.tok ay (out1 aa.out) (mem1 (by simp))
  replace aa : Tok bc _ d0 53 ([.slice ab z0.files_.e0_.length ac, .slice ad z0.files_.e1_.length ae, .slice af z0.files_.e2_.length ag, vi z0.room_, .bool true, .bool false, vi z0.left_]) := ⟨ax, aa.out⟩
  clear ay ax
  refine Ops_step (R_nilCheck rfl) rfl rfl (Ops_step (R_fieldAddr fo53_4 rfl) rfl rfl ?_)
  refine Ops_to0 (R_store sz3 rfl rfl aa.blk (by show 6 < 7; decide) rfl) rfl ?_
  rintro _ bi ⟨az, a4⟩
  replace hI := hI.tok a4 (out1 aa.out) (mem1 (by simp))
  replace aa : Tok bc _ d0 53 ([.slice ab z0.files_.e0_.length ac, .slice ad z0.files_.e1_.length ae, .slice af z0.files_.e2_.length ag, vi z0.room_, .bool true, .bool false, vi 0]) := ⟨az, aa.out⟩
  clear a4 az
  refine Ops_nil ?_
  refine then_n (k10 _ _ ?_)
  clear k10 K10
  refine W_keepB [] fun B_ b_ => ?_
  simp only [e_, Nat.reduceAdd, Nat.reduceBEq] at b_
  subst b_
  refine W_seq_k fun K15 k15 => ?_
  refine W_region [2] rfl (Ops_step (R_assign rfl) rfl rfl ?_)
  refine Ops_nil ?_
  refine then_n (k15 _ _ ?_)
  clear k15 K15
  refine W_ret ?_
  refine ⟨_, ⟨_, _, rfl, rfl, rfl⟩, ?_⟩
  exact ⟨0, (disk_Disk.mk z0.files_ z0.room_ true false 0), ab, ac, ad, ae, af, ag, _, _, rfl, hI, aa, ak, ah, al, ai, am, aj, h⟩

theorem sealskinref05_Disk_Crash_ok {G : Gh} {w : World} (hS : St G w) (hg : GL G) {d0 : Nat} {z0 : sealskinref05_Disk} {ab : Option Addr} {ac : Nat} {ad : Option Addr} {ae : Nat} {af : Option Addr} {ag : Nat} (aa : Tok G w d0 81 ([.slice ab z0.F_.e0_.length ac, .slice ad z0.F_.e1_.length ae, .slice af z0.F_.e2_.length ag, vi z0.Room_, .bool z0.Off_, vi z0.Fuse_])) (ah : z0.F_.e0_.length ≤ ac) (ai : Sl G ab z0.F_.e0_) (aj : z0.F_.e1_.length ≤ ae) (ak : Sl G ad z0.F_.e1_) (al : z0.F_.e2_.length ≤ ag) (am : Sl G af z0.F_.e2_) {Q : Int → sealskinref05_Disk → Prop} (h : sealskinref05_Disk_Crash z0 Q) : Calls Try.prog 35 #[.pointer (some ⟨d0, 0, none⟩)] w fun e w2 => ∃ (r0 : Int) (y0 : sealskinref05_Disk) (an : Option Addr) (ao : Nat) (ap : Option Addr) (aq : Nat) (ar : Option Addr) (au : Nat) (L H : Gh), e = .returned (vi r0) ∧ Inv [d0] G w L H w2 ∧ Tok H w2 d0 81 ([.slice an y0.F_.e0_.length ao, .slice ap y0.F_.e1_.length aq, .slice ar y0.F_.e2_.length au, vi y0.Room_, .bool y0.Off_, vi y0.Fuse_]) ∧ y0.F_.e0_.length ≤ ao ∧ Sl H an y0.F_.e0_ ∧ y0.F_.e1_.length ≤ aq ∧ Sl H ap y0.F_.e1_ ∧ y0.F_.e2_.length ≤ au ∧ Sl H ar y0.F_.e2_ ∧ Q r0 y0 := by
 unfold sealskinref05_Disk_Crash at h
 have hI := Inv.start (M := [d0]) hS
 refine calls_W 13 Try.func35 rfl Try.ntmps35 rfl [.tmp 2] rfl ?_
 have a4 := aa.blk.lt
 refine W_seq_k fun K1 k1 => ?_
 refine W_region [2] rfl (Ops_step (R_assign rfl) rfl rfl ?_)
 refine Ops_nil ?_
 refine then_n (k1 _ _ ?_)
 clear k1 K1
 refine W_seq_k fun K2 k2 => ?_
 refine W_seq_k fun K3 k3 => ?_
 refine W_region [3, 4, 5, 6] rfl (Ops_step (R_move rfl) rfl rfl (Ops_step (R_nilCheck rfl) rfl rfl (Ops_step (R_fieldAddr fo81_2 rfl) rfl rfl ?_)))
 refine Ops_step (R_loadB (v := .bool z0.Off_) ag4 rfl aa.blk rfl) rfl rfl ?_
 refine Ops_nil ?_
 refine then_n (k3 _ _ ?_)
 clear k3 K3
 refine W_cond rfl (fun ax => ?_) (fun ax => ?_)
 ·
  replace h := h.1 ax
  refine W_seq_k fun K5 k5 => ?_
  refine W_region [2] rfl (Ops_step (R_assign rfl) rfl rfl ?_)
  refine Ops_nil ?_
  refine then_n (k5 _ _ ?_)
  clear k5 K5
  refine W_ret ?_
  refine then_ret ?_
  clear k2 K2
  refine ⟨_, ⟨_, _, rfl, rfl, rfl⟩, ?_⟩
  exact ⟨50, z0, ab, ac, ad, ae, af, ag, _, _, rfl, hI, aa, ah, ai, aj, ak, al, am, h⟩
 ·
  replace h := h.2 ax
  refine W_skip ?_
  refine then_n (k2 _ _ ?_)
  clear k2 K2
  refine W_seq_k fun K6 k6 => ?_
  refine W_region [7, 8, 9, none] rfl (Ops_step (R_move rfl) rfl rfl (Ops_step (R_nilCheck rfl) rfl rfl (Ops_step (R_fieldAddr fo81_2 rfl) rfl rfl ?_)))
  refine Ops_to0 (R_store sz4 rfl rfl aa.blk (by show 4 < 6; decide) rfl) rfl ?_
  rintro _ a6 ⟨ay, az⟩
  replace hI := hI.tok az (out1 aa.out) (mem1 (by simp))
  replace aa : Tok G _ d0 81 ([.slice ab z0.F_.e0_.length ac, .slice ad z0.F_.e1_.length ae, .slice af z0.F_.e2_.length ag, vi z0.Room_, .bool true, vi z0.Fuse_]) := ⟨ay, aa.out⟩
  clear az ay
  refine Ops_nil ?_
  refine then_n (k6 _ _ ?_)
  clear k6 K6
  refine W_keepB [0] fun B_ b_ => ?_
  simp only [e_, Nat.reduceAdd, Nat.reduceBEq] at b_
  subst b_
  refine W_seq_k fun K9 k9 => ?_
  refine W_region [10, 11, 12, none] rfl (Ops_step (R_move rfl) rfl rfl (Ops_step (R_nilCheck rfl) rfl rfl (Ops_step (R_fieldAddr fo81_3 rfl) rfl rfl ?_)))
  refine Ops_to0 (R_store sz3 rfl rfl aa.blk (by show 5 < 6; decide) rfl) rfl ?_
  rintro _ a5 ⟨av, aw⟩
  replace hI := hI.tok aw (out1 aa.out) (mem1 (by simp))
  replace aa : Tok G _ d0 81 ([.slice ab z0.F_.e0_.length ac, .slice ad z0.F_.e1_.length ae, .slice af z0.F_.e2_.length ag, vi z0.Room_, .bool true, vi 0]) := ⟨av, aa.out⟩
  clear aw av
  refine Ops_nil ?_
  refine then_n (k9 _ _ ?_)
  clear k9 K9
  refine W_seq_k fun K11 k11 => ?_
  refine W_region [2] rfl (Ops_step (R_assign rfl) rfl rfl ?_)
  refine Ops_nil ?_
  refine then_n (k11 _ _ ?_)
  clear k11 K11
  refine W_ret ?_
  refine ⟨_, ⟨_, _, rfl, rfl, rfl⟩, ?_⟩
  exact ⟨0, (sealskinref05_Disk.mk z0.F_ z0.Room_ true 0), ab, ac, ad, ae, af, ag, _, _, rfl, hI, aa, ah, ai, aj, ak, al, am, h⟩

theorem sealskinref05_Disk_Arm_ok {G : Gh} {w : World} (hS : St G w) (hg : GL G) {d0 : Nat} {z0 : sealskinref05_Disk} {aa : Option Addr} {ab : Nat} {ac : Option Addr} {ad : Nat} {ae : Option Addr} {af : Nat} (ag : Tok G w d0 81 ([.slice aa z0.F_.e0_.length ab, .slice ac z0.F_.e1_.length ad, .slice ae z0.F_.e2_.length af, vi z0.Room_, .bool z0.Off_, vi z0.Fuse_])) (ah : z0.F_.e0_.length ≤ ab) (ai : Sl G aa z0.F_.e0_) (aj : z0.F_.e1_.length ≤ ad) (ak : Sl G ac z0.F_.e1_) (al : z0.F_.e2_.length ≤ af) (am : Sl G ae z0.F_.e2_) {x1 : Int} {Q : Int → sealskinref05_Disk → Prop} (h : sealskinref05_Disk_Arm z0 x1 Q) : Calls Try.prog 36 #[.pointer (some ⟨d0, 0, none⟩), vi x1] w fun e w2 => ∃ (r0 : Int) (y0 : sealskinref05_Disk) (ao : Option Addr) (ap : Nat) (aq : Option Addr) (ar : Nat) (au : Option Addr) (av : Nat) (L H : Gh), e = .returned (vi r0) ∧ Inv [d0] G w L H w2 ∧ Tok H w2 d0 81 ([.slice ao y0.F_.e0_.length ap, .slice aq y0.F_.e1_.length ar, .slice au y0.F_.e2_.length av, vi y0.Room_, .bool y0.Off_, vi y0.Fuse_]) ∧ y0.F_.e0_.length ≤ ap ∧ Sl H ao y0.F_.e0_ ∧ y0.F_.e1_.length ≤ ar ∧ Sl H aq y0.F_.e1_ ∧ y0.F_.e2_.length ≤ av ∧ Sl H au y0.F_.e2_ ∧ Q r0 y0 := by
 unfold sealskinref05_Disk_Arm at h
 have hI := Inv.start (M := [d0]) hS
 refine calls_W 15 Try.func36 rfl Try.ntmps36 rfl [.tmp 4] rfl ?_
 have az := ag.blk.lt
 refine W_seq_k fun K1 k1 => ?_
 refine W_region [4] rfl (Ops_step (R_assign rfl) rfl rfl ?_)
 refine Ops_nil ?_
 refine then_n (k1 _ _ ?_)
 clear k1 K1
 refine W_seq_k fun K2 k2 => ?_
 refine W_seq_k fun K3 k3 => ?_
 refine W_region [5, 6, 7, 8] rfl (Ops_step (R_move rfl) rfl rfl (Ops_step (R_nilCheck rfl) rfl rfl (Ops_step (R_fieldAddr fo81_2 rfl) rfl rfl ?_)))
 refine Ops_step (R_loadB (v := .bool z0.Off_) ag4 rfl ag.blk rfl) rfl rfl ?_
 refine Ops_nil ?_
 refine then_n (k3 _ _ ?_)
 clear k3 K3
 refine W_cond rfl (fun ay => ?_) (fun ay => ?_)
 ·
  replace h := h.1 ay
  refine W_seq_k fun K5 k5 => ?_
  refine W_region [4] rfl (Ops_step (R_assign rfl) rfl rfl ?_)
  refine Ops_nil ?_
  refine then_n (k5 _ _ ?_)
  clear k5 K5
  refine W_keepB [4] fun B_ b_ => ?_
  simp only [e_, Nat.reduceAdd, Nat.reduceBEq] at b_
  subst b_
  refine W_ret ?_
  refine then_ret ?_
  clear k2 K2
  refine ⟨_, ⟨_, _, rfl, rfl, rfl⟩, ?_⟩
  exact ⟨50, z0, aa, ab, ac, ad, ae, af, _, _, rfl, hI, ag, ah, ai, aj, ak, al, am, h⟩
 ·
  replace h := h.2 ay
  refine W_skip ?_
  refine then_n (k2 _ _ ?_)
  clear k2 K2
  refine W_seq_k fun K7 k7 => ?_
  refine W_seq_k fun K8 k8 => ?_
  refine W_region [9, 10] rfl (Ops_step (R_move rfl) rfl rfl (Ops_step (R_lss rfl rfl) rfl rfl ?_))
  refine Ops_nil ?_
  refine then_n (k8 _ _ ?_)
  clear k8 K8
  refine W_keepB [0, 1, 10] fun B_ b_ => ?_
  simp only [e_, Nat.reduceAdd, Nat.reduceBEq] at b_
  subst b_
  refine W_if rfl (fun an => ?_) (fun an => ?_)
  ·
   replace h := h.1 an
   refine W_seq_k fun K11 k11 => ?_
   refine W_region [4] rfl (Ops_step (R_assign rfl) rfl rfl ?_)
   refine Ops_nil ?_
   refine then_n (k11 _ _ ?_)
   clear k11 K11
   refine W_ret ?_
   refine then_ret ?_
   clear k7 K7
   refine ⟨_, ⟨_, _, rfl, rfl, rfl⟩, ?_⟩
   exact ⟨1, z0, aa, ab, ac, ad, ae, af, _, _, rfl, hI, ag, ah, ai, aj, ak, al, am, h⟩
  ·
   replace h := h.2 an
   refine W_skip ?_
   refine then_n (k7 _ _ ?_)
   clear k7 K7
   refine W_seq_k fun K12 k12 => ?_
   refine W_region [11, 12, 13, 14, none] rfl (Ops_step (R_move rfl) rfl rfl (Ops_step (R_move rfl) rfl rfl (Ops_step (R_nilCheck rfl) rfl rfl (Ops_step (R_fieldAddr fo81_3 rfl) rfl rfl ?_))))
   refine Ops_to0 (R_store sz3 rfl rfl ag.blk (by show 5 < 6; decide) rfl) rfl ?_
   rintro _ a4 ⟨aw, ax⟩
   replace hI := hI.tok ax (out1 ag.out) (mem1 (by simp))
   replace ag : Tok G _ d0 81 ([.slice aa z0.F_.e0_.length ab, .slice ac z0.F_.e1_.length ad, .slice ae z0.F_.e2_.length af, vi z0.Room_, .bool z0.Off_, vi x1]) := ⟨aw, ag.out⟩
   clear ax aw
   refine Ops_nil ?_
   refine then_n (k12 _ _ ?_)
   clear k12 K12
   refine W_keepB [] fun B_ b_ => ?_
   simp only [e_, Nat.reduceAdd, Nat.reduceBEq] at b_
   subst b_
   refine W_seq_k fun K15 k15 => ?_
   refine W_region [4] rfl (Ops_step (R_assign rfl) rfl rfl ?_)
   refine Ops_nil ?_
   refine then_n (k15 _ _ ?_)
   clear k15 K15
   refine W_ret ?_
   refine ⟨_, ⟨_, _, rfl, rfl, rfl⟩, ?_⟩
   exact ⟨0, (sealskinref05_Disk.mk z0.F_ z0.Room_ z0.Off_ x1), aa, ab, ac, ad, ae, af, _, _, rfl, hI, ag, ah, ai, aj, ak, al, am, h⟩

end Go.Proofs.Ytkmljjhjojolcaa

