/- What is shown of the program on the way to the law. -/
import Derived.Test.YtbjmngacjdcddaaDoorZG2
import Derived.Test.YtbjmngacjdcddaaDoorZG7
import Derived.Test.YtbjmngacjdcddaaDoorProg
set_option linter.unusedVariables false
set_option linter.unusedSimpArgs false
set_option maxHeartbeats 4000000
namespace Go.Lx
open Go Go.Sx
instance : Rp sealskinref02_Reader where
 n := 3
 cs := fun G x l => ∃ A1 c1, l = [.slice A1 x.B_.length c1, vi x.At_, vi x.E_] ∧ (x.B_.length ≤ c1 ∧ Sl G A1 x.B_)
 mono := fun hl ⟨A1, c1, e, ⟨a0, b0⟩⟩ => ⟨A1, c1, e, ⟨a0, b0.up hl⟩⟩
 len := fun ⟨A1, c1, e, _⟩ => by rw [e]; rfl
 one := fun ⟨A1, c1, e, _⟩ => by rw [e]; rfl
end Go.Lx
namespace Go.Proofs.YtbjmngacjdcddaaDoor
open Go Go.Sx Go.Lx
namespace TFtC
theorem hm : Tryd.prog.follows .mixedOrders = true := by kernel_rfl
theorem ag22 : aggB Tryd.prog 22 = some false := by kernel_rfl
theorem ag3 : aggB Tryd.prog 3 = some false := by kernel_rfl
theorem ag30 : aggB Tryd.prog 30 = some false := by kernel_rfl
theorem ag5 : aggB Tryd.prog 5 = some false := by kernel_rfl
theorem bd71 : bodied Tryd.prog 71 = true := by kernel_rfl
theorem bd86 : bodied Tryd.prog 86 = true := by kernel_rfl
theorem bd87 : bodied Tryd.prog 87 = true := by kernel_rfl
theorem el30 : Elem Tryd.prog 30 5 1 1 := Elem.of (by kernel_rfl)
theorem fo69_0 : offB Tryd.prog 69 0 = some 0 := by kernel_rfl
theorem fo69_1 : offB Tryd.prog 69 1 = some 1 := by kernel_rfl
theorem fo69_2 : offB Tryd.prog 69 2 = some 2 := by kernel_rfl
theorem sz22 : sz Tryd.prog 22 = some 1 := by kernel_rfl
theorem sz3 : sz Tryd.prog 3 = some 1 := by kernel_rfl
theorem sz5 : sz Tryd.prog 5 = some 1 := by kernel_rfl
end TFtC
open TFtC
theorem sealskinref02_number_ok {G : Gh} {w : World} (hS : St G w) (hg : GL G) {A0 : Option Addr} {c0 : Nat} {x0 : List UInt8} (hc0 : x0.length ≤ c0) (hs0 : Sl G A0 x0) {Q : Int → Int → Prop} (h : sealskinref02_number x0 Q) : Calls Tryd.prog 71 #[.slice A0 x0.length c0] w fun e w2 => ∃ (r0 : Int) (r1 : Int) (L H : Gh), e = .returned (.tuple #[vi r0, vi r1]) ∧ Inv [] G w L H w2 ∧ Q r0 r1 := by
 unfold sealskinref02_number at h
 have hI := Inv.start (M := []) hS
 refine calls_W 26 Tryd.func71 rfl Tryd.ntmps71 rfl [.tmp 2, .tmp 3] rfl ?_
 refine W_seq_k fun K1 k1 => ?_
 refine W_region [2, 3] rfl (Ops_step (R_assign rfl) rfl rfl (Ops_step (R_assign rfl) rfl rfl ?_))
 refine Ops_nil ?_
 refine then_n (k1 _ _ ?_)
 clear k1 K1
 refine W_seq_k fun K2 k2 => ?_
 refine W_seq_k fun K3 k3 => ?_
 refine W_region [6, 7, 8] rfl (Ops_step (R_move rfl) rfl rfl (Ops_step (R_len Tryd.underlying30 rfl rfl) rfl rfl (Ops_step (R_lss rfl rfl) rfl rfl ?_)))
 refine Ops_nil ?_
 refine then_n (k3 _ _ ?_)
 clear k3 K3
 refine W_if rfl (fun hc4_ => ?_) (fun hc4_ => ?_)
 ·
  replace h := h.1 hc4_
  refine W_seq_k fun K5 k5 => ?_
  refine W_region [2, 3] rfl (Ops_step (R_assign rfl) rfl rfl (Ops_step (R_assign rfl) rfl rfl ?_))
  refine Ops_nil ?_
  refine then_n (k5 _ _ ?_)
  clear k5 K5
  refine W_ret ?_
  refine then_ret ?_
  clear k2 K2
  refine ⟨_, ⟨_, _, rfl, rfl, ⟨_, _, rfl, rfl, rfl⟩⟩, ?_⟩
  exact ⟨0, 2, _, _, rfl, hI, h⟩
 ·
  replace h := h.2 hc4_
  refine W_skip ?_
  refine then_n (k2 _ _ ?_)
  clear k2 K2
  refine W_seq_k fun K6 k6 => ?_
  refine W_seq_k fun K7 k7 => ?_
  refine W_region [9, 10, 11, 12] rfl (Ops_step (R_move rfl) rfl rfl ?_)
  refine ex_ h fun x8_ hx8_ h => ?_
  have ha8_ := (hs0.atS hx8_).1
  have hg8_ := (hs0.atS hx8_).2
  refine Ops_step (R_indexSl Tryd.underlying30 sz5 rfl rfl hx8_.1 hx8_.lt ha8_) rfl rfl (Ops_step (R_load ag5 rfl (hI.st _ _ hg8_)) rfl rfl (Ops_step (R_gtr rfl rfl) rfl rfl ?_))
  refine Ops_nil ?_
  refine then_n (k7 _ _ ?_)
  clear k7 K7
  refine W_keepB [0, 12] fun B_ b_ => ?_
  simp only [e_, Nat.reduceAdd, Nat.reduceBEq] at b_
  subst b_
  refine W_if rfl (fun hc10_ => ?_) (fun hc10_ => ?_)
  ·
   replace h := h.1 hc10_
   refine W_seq_k fun K11 k11 => ?_
   refine W_region [2, 3] rfl (Ops_step (R_assign rfl) rfl rfl (Ops_step (R_assign rfl) rfl rfl ?_))
   refine Ops_nil ?_
   refine then_n (k11 _ _ ?_)
   clear k11 K11
   refine W_ret ?_
   refine then_ret ?_
   clear k6 K6
   refine ⟨_, ⟨_, _, rfl, rfl, ⟨_, _, rfl, rfl, rfl⟩⟩, ?_⟩
   exact ⟨0, 5, _, _, rfl, hI, h⟩
  ·
   replace h := h.2 hc10_
   refine W_skip ?_
   refine then_n (k6 _ _ ?_)
   clear k6 K6
   refine W_seq_k fun K12 k12 => ?_
   refine W_region [4] rfl (Ops_step (R_assign rfl) rfl rfl ?_)
   refine Ops_nil ?_
   refine then_n (k12 _ _ ?_)
   clear k12 K12
   refine ex_ h fun J13_ hr13_ h => ?_
   refine W_seq_join [] [4] (fun vals_ w2 => ∃ (x4_13 : Int) (L H : Gh), vals_ = [vi x4_13] ∧ J13_ x4_13 ∧ Inv [] G w L H w2 ∧ Le Gh.no L ∧ Le G H ∧ True) (fun B_ b_ => ?_) (fun B_ b_ => ?_)
   ·
    simp only [e_, Nat.reduceAdd, Nat.reduceBEq] at b_
    subst b_
    clear hr13_
    have hll13_ := Le.refl Gh.no
    have hhh13_ := Le.refl G
    refine W_seq_k fun K14 k14 => ?_
    refine W_region [13] rfl (Ops_step (R_move rfl) rfl rfl ?_)
    refine Ops_nil ?_
    refine then_n (k14 _ _ ?_)
    clear k14 K14
    refine W_block ?_
    refine Exists.elim h fun I15_ h => Exists.elim h fun n15_ h => ?_
    have h0_ := h.1
    have hs15_ := h.2
    clear h
    refine W_loopB [0] [4, 13] (fun m vals_ w2 => ∃ (x4_15 : Int) (x13_15 : Int) (L H : Gh), vals_ = [vi x4_15, vi x13_15] ∧ I15_ m x4_15 x13_15 ∧ Inv [] G w L H w2 ∧ Le Gh.no L ∧ Le G H ∧ True) n15_ _ rfl ⟨0, 0, _, _, rfl, h0_, hI, Le.refl _, Le.refl _, trivial⟩ fun B_ b_ => ?_
    clear h0_
    simp only [e_, Nat.reduceAdd, Nat.reduceBEq] at b_
    subst b_
    rintro m15_ _ w15_ ⟨x4_15, x13_15, L15_, H15_, rfl, hJ15_, hI15_, hll15_, hhh15_, -⟩
    replace hI := hI15_
    clear hI15_
    have h := hs15_ m15_ x4_15 x13_15 hJ15_
    clear hs15_ hJ15_
    replace hs0 := hs0.up hhh15_
    replace hll13_ := hll13_.trans hll15_
    replace hhh13_ := hhh13_.trans hhh15_
    refine W_seq_k fun K16 k16 => ?_
    refine W_region [14] rfl (Ops_step (R_lss rfl rfl) rfl rfl ?_)
    refine Ops_nil ?_
    refine then_n (k16 _ _ ?_)
    clear k16 K16
    refine W_seq_k fun K17 k17 => ?_
    refine W_if rfl (fun hc18_ => ?_) (fun hc18_ => ?_)
    ·
     replace h := h.1 hc18_
     refine W_skip ?_
     refine then_n (k17 _ _ ?_)
     clear k17 K17
     refine W_seq_k fun K19 k19 => ?_
     refine W_block ?_
     refine W_seq_k fun K20 k20 => ?_
     refine W_region [15, 5] rfl (Ops_step (R_move rfl) rfl rfl (Ops_step (R_assign rfl) rfl rfl ?_))
     refine Ops_nil ?_
     refine then_n (k20 _ _ ?_)
     clear k20 K20
     refine W_region [16, 17, 18, 19, 20, 21, 22, 23, 4] rfl (Ops_step (R_move rfl) rfl rfl ?_)
     have hk21_ := h.1
     replace h := h.2
     refine Ops_step (R_mul rfl rfl (wI hk21_.1 hk21_.2)) rfl rfl (Ops_step (R_move rfl) rfl rfl (Ops_step (R_move rfl) rfl rfl ?_))
     refine ex_ h fun x22_ hx22_ h => ?_
     have ha22_ := (hs0.atS hx22_).1
     have hg22_ := (hs0.atS hx22_).2
     refine Ops_step (R_indexSl Tryd.underlying30 sz5 rfl rfl hx22_.1 hx22_.lt ha22_) rfl rfl (Ops_step (R_load ag5 rfl (hI.st _ _ hg22_)) rfl rfl (Ops_step (R_conv Tryd.underlying5 Tryd.underlying3 rfl (c8_I _)) rfl rfl ?_))
     have hk23_ := h.1
     replace h := h.2
     refine Ops_step (R_add rfl rfl (wI hk23_.1 hk23_.2)) rfl rfl (Ops_step (R_assign rfl) rfl rfl ?_)
     refine Ops_nil ?_
     refine block_n ?_
     refine then_n (k19 _ _ ?_)
     clear k19 K19
     refine W_keepB [0, 4, 13] fun B_ b_ => ?_
     simp only [e_, Nat.reduceAdd, Nat.reduceBEq] at b_
     subst b_
     refine W_region [24, 13] rfl ?_
     have hk25_ := h.1
     replace h := h.2
     refine Ops_step (R_add rfl rfl (wI hk25_.1 hk25_.2)) rfl rfl (Ops_step (R_move rfl) rfl rfl ?_)
     refine Ops_nil ?_
     refine then_n ?_
     exact h.elim fun m_ h => ⟨m_, _, h.1, rfl, ⟨((256 * x4_15) + (x22_.toNat : Int)), (x13_15 + 1), _, _, rfl, h.2, hI, hll15_, hhh15_, trivial⟩, ⟨rfl, trivial⟩⟩
    ·
     replace h := h.2 hc18_
     refine W_exit ?_
     refine then_exit ?_
     clear k17 K17
     refine then_exit ?_
     refine block_exit ?_
     refine then_n ?_
     exact ⟨_, rfl, ⟨x4_15, _, _, rfl, h, hI, hll13_, hhh13_, trivial⟩, trivial⟩
   ·
    simp only [e_, Nat.reduceAdd, Nat.reduceBEq] at b_
    subst b_
    clear h
    rintro _ w13_ ⟨x4_13, L13_, H13_, rfl, hJ13_, hI13_, hll13_, hhh13_, -⟩
    replace hI := hI13_
    clear hI13_
    have h := hr13_ x4_13 hJ13_
    clear hr13_ hJ13_
    refine W_seq_k fun K26 k26 => ?_
    refine W_region [25, 2, 3] rfl (Ops_step (R_move rfl) rfl rfl (Ops_step (R_assign rfl) rfl rfl (Ops_step (R_assign rfl) rfl rfl ?_)))
    refine Ops_nil ?_
    refine then_n (k26 _ _ ?_)
    clear k26 K26
    refine W_ret ?_
    refine ⟨_, ⟨_, _, rfl, rfl, ⟨_, _, rfl, rfl, rfl⟩⟩, ?_⟩
    exact ⟨x4_13, 0, _, _, rfl, hI, h⟩

theorem sealskinref02_Reader_Number_ok {G : Gh} {w : World} (hS : St G w) (hg : GL G) {d0 tb0 : Nat} {x0 : sealskinref02_Reader} (hr0 : Ob tb0 G G w d0 x0) {Q : Int → sealskinref02_Reader → Prop} (h : sealskinref02_Reader_Number x0 Q) : Calls Tryd.prog 47 #[.pointer (some ⟨d0, 0, none⟩)] w fun e w2 => ∃ (r0 : Int) (y0 : sealskinref02_Reader) (L H : Gh), e = .returned (vi r0) ∧ Inv [d0] G w L H w2 ∧ Ob tb0 H H w2 d0 y0 ∧ Q r0 y0 := by
 unfold sealskinref02_Reader_Number at h
 have hI := Inv.start (M := [d0]) hS
 refine calls_W 37 Tryd.func47 rfl Tryd.ntmps47 rfl [.tmp 2] rfl ?_
 obtain ⟨l0_, hl0_, ht0⟩ := hr0
 obtain ⟨A0_1, c0_1, rfl, ⟨hc0_1, hs0_1⟩⟩ := hl0_
 have hlt_d0 := ht0.blk.lt
 refine W_seq_k fun K1 k1 => ?_
 refine W_region [2] rfl (Ops_step (R_assign rfl) rfl rfl ?_)
 refine Ops_nil ?_
 refine then_n (k1 _ _ ?_)
 clear k1 K1
 refine W_seq_k fun K2 k2 => ?_
 refine W_seq_k fun K3 k3 => ?_
 refine W_region [5, 6, 7, 8, 9] rfl (Ops_step (R_move rfl) rfl rfl (Ops_step (R_nilCheck rfl) rfl rfl (Ops_step (R_fieldAddr fo69_2 rfl) rfl rfl ?_)))
 refine Ops_step (R_loadB (v := vi x0.E_) ag22 rfl ht0.blk rfl) rfl rfl ?_
 refine Ops_step (R_neq rfl rfl) rfl rfl ?_
 refine Ops_nil ?_
 refine then_n (k3 _ _ ?_)
 clear k3 K3
 refine W_if rfl (fun hc4_ => ?_) (fun hc4_ => ?_)
 ·
  replace h := h.1 hc4_
  refine W_seq_k fun K5 k5 => ?_
  refine W_region [2] rfl (Ops_step (R_assign rfl) rfl rfl ?_)
  refine Ops_nil ?_
  refine then_n (k5 _ _ ?_)
  clear k5 K5
  refine W_keepB [2] fun B_ b_ => ?_
  simp only [e_, Nat.reduceAdd, Nat.reduceBEq] at b_
  subst b_
  refine W_ret ?_
  refine then_ret ?_
  clear k2 K2
  refine ⟨_, ⟨_, _, rfl, rfl, rfl⟩, ?_⟩
  exact ⟨0, x0, _, _, rfl, hI, ⟨_, ⟨A0_1, c0_1, rfl, ⟨hc0_1, hs0_1⟩⟩, ht0⟩, h⟩
 ·
  replace h := h.2 hc4_
  refine W_skip ?_
  refine then_n (k2 _ _ ?_)
  clear k2 K2
  refine W_keepB [0] fun B_ b_ => ?_
  simp only [e_, Nat.reduceAdd, Nat.reduceBEq] at b_
  subst b_
  refine W_seq_k fun K8 k8 => ?_
  refine W_drawF [11, 12, 13, 14, 15, 16, 17, 18, 19, 20, 10, 21, 22, 3, 4] [(0, true), (1, true), (2, true), (3, true), (4, true), (5, true), (6, true), (7, true), (8, true), (9, false), (10, true), (11, true), (12, true), (13, true), (14, true)] TFtC.hm rfl (by kernel_rfl) fun ops9_ w9_ hops9_ hF9_ => ?_
  replace hI := hI.fr0 hF9_
  replace ht0 := ht0.fr0 hF9_
  clear hF9_
  refine HSp (R_move rfl) rfl rfl (HSp (R_nilCheck rfl) rfl rfl (HSp (R_fieldAddr fo69_0 rfl) rfl rfl ?_))
  refine HS_loadB (v := .slice A0_1 x0.B_.length c0_1) ag30 rfl ht0.blk rfl rfl rfl ?_
  refine HSp (R_move rfl) rfl rfl (HSp (R_nilCheck rfl) rfl rfl (HSp (R_fieldAddr fo69_1 rfl) rfl rfl ?_))
  refine HS_loadB (v := vi x0.At_) ag3 rfl ht0.blk rfl rfl rfl ?_
  have hk11_ := h.1
  replace h := h.2
  have hk12_ := h.1
  replace h := h.2
  refine Exists.elim (cut_ex (n := 1) (l := x0.At_) (h := (x0.B_.length : Int)) hs0_1 rfl (by decide) hc0_1 hk11_ hk12_ (Int.le_refl _)) fun A10_ h10_ => Exists.elim h10_ fun c10_ h10_ => ?_
  have hr10_ := h10_.1
  have hc10_ := h10_.2.1
  have hs10_ := h10_.2.2
  clear h10_
  refine HSp (X_slice (xs := x0.B_) Tryd.underlying30 sz5 rfl hr10_ hc0_1 rfl rfl hk11_ hk12_ (Int.le_refl _)) rfl rfl ?_
  clear hr10_
  refine HS_call [] _ rfl (by rw [hops9_]; kernel_rfl) (C_func bd71 rfl) rfl rfl ?_
  refine (sealskinref02_number_ok (x0 := (cut x0.B_ x0.At_ (x0.B_.length : Int))) hI.st (hg.up hI.le) hc10_ hs10_ h).mono ?_
  rintro _ w13_ ⟨r13_0, r13_1, L13_, H13_, rfl, hI13_, h⟩
  refine Exists.elim (hI.call hI13_ (by simp)) fun L130_ h13_ => ?_
  have hz13_ := hI.size
  replace hI := h13_.1
  have u13_ := h13_.2.1
  have hl13_ := h13_.2.2
  clear h13_
  replace hs0_1 := hs0_1.up u13_.hh
  replace ht0 := ht0.up u13_ (by simp)
  clear hI13_ u13_ hl13_
  refine ⟨_, rfl, trivial, ?_⟩
  refine HSp (R_move rfl) rfl rfl ?_
  refine HSp (R_extract (v := vi r13_0) rfl rfl) rfl rfl ?_
  refine HSp (R_extract (v := vi r13_1) rfl rfl) rfl rfl ?_
  refine HSp (R_assign rfl) rfl rfl (HSp (R_assign rfl) rfl rfl ?_)
  refine HS_nil ?_
  clear hops9_
  refine then_n (k8 _ _ ?_)
  clear k8 K8
  refine W_keepB [0, 3, 4] fun B_ b_ => ?_
  simp only [e_, Nat.reduceAdd, Nat.reduceBEq] at b_
  subst b_
  refine W_seq_k fun K15 k15 => ?_
  refine W_seq_k fun K16 k16 => ?_
  refine W_region [23, 24] rfl (Ops_step (R_move rfl) rfl rfl (Ops_step (R_neq rfl rfl) rfl rfl ?_))
  refine Ops_nil ?_
  refine then_n (k16 _ _ ?_)
  clear k16 K16
  refine W_if rfl (fun hc17_ => ?_) (fun hc17_ => ?_)
  ·
   replace h := h.1 hc17_
   refine W_seq_k fun K18 k18 => ?_
   refine W_region [25, 26, 27, 28, none] rfl (Ops_step (R_move rfl) rfl rfl (Ops_step (R_move rfl) rfl rfl (Ops_step (R_nilCheck rfl) rfl rfl (Ops_step (R_fieldAddr fo69_2 rfl) rfl rfl ?_))))
   refine Ops_to0 (R_store sz22 rfl rfl ht0.blk (by show 2 < 3; decide) rfl) rfl ?_
   rintro _ w19_ ⟨hB19_, hF19_⟩
   replace hI := hI.tok hF19_ (out1 ht0.out) (mem1 (by simp))
   replace ht0 : Tok H13_ _ d0 tb0 ([.slice A0_1 x0.B_.length c0_1, vi x0.At_, vi r13_1]) := ⟨hB19_, ht0.out⟩
   clear hF19_ hB19_
   refine Ops_nil ?_
   refine then_n (k18 _ _ ?_)
   clear k18 K18
   refine W_keepB [] fun B_ b_ => ?_
   simp only [e_, Nat.reduceAdd, Nat.reduceBEq] at b_
   subst b_
   refine W_seq_k fun K21 k21 => ?_
   refine W_region [2] rfl (Ops_step (R_assign rfl) rfl rfl ?_)
   refine Ops_nil ?_
   refine then_n (k21 _ _ ?_)
   clear k21 K21
   refine W_ret ?_
   refine then_ret ?_
   clear k15 K15
   refine ⟨_, ⟨_, _, rfl, rfl, rfl⟩, ?_⟩
   exact ⟨0, (sealskinref02_Reader.mk x0.B_ x0.At_ r13_1), _, _, rfl, hI, ⟨_, ⟨A0_1, c0_1, rfl, ⟨hc0_1, hs0_1⟩⟩, ht0⟩, h⟩
  ·
   replace h := h.2 hc17_
   refine W_skip ?_
   refine then_n (k15 _ _ ?_)
   clear k15 K15
   refine W_seq_k fun K22 k22 => ?_
   refine W_region [29, 30, 31, 32, 33, 34, 35, none] rfl (Ops_step (R_move rfl) rfl rfl (Ops_step (R_nilCheck rfl) rfl rfl (Ops_step (R_fieldAddr fo69_1 rfl) rfl rfl ?_)))
   refine Ops_step (R_loadB (v := vi x0.At_) ag3 rfl ht0.blk rfl) rfl rfl ?_
   have hk23_ := h.1
   replace h := h.2
   refine Ops_step (R_add rfl rfl (wI hk23_.1 hk23_.2)) rfl rfl (Ops_step (R_nilCheck rfl) rfl rfl (Ops_step (R_fieldAddr fo69_1 rfl) rfl rfl ?_))
   refine Ops_to0 (R_store sz3 rfl rfl ht0.blk (by show 1 < 3; decide) rfl) rfl ?_
   rintro _ w24_ ⟨hB24_, hF24_⟩
   replace hI := hI.tok hF24_ (out1 ht0.out) (mem1 (by simp))
   replace ht0 : Tok H13_ _ d0 tb0 ([.slice A0_1 x0.B_.length c0_1, vi (x0.At_ + 8), vi x0.E_]) := ⟨hB24_, ht0.out⟩
   clear hF24_ hB24_
   refine Ops_nil ?_
   refine then_n (k22 _ _ ?_)
   clear k22 K22
   refine W_keepB [3] fun B_ b_ => ?_
   simp only [e_, Nat.reduceAdd, Nat.reduceBEq] at b_
   subst b_
   refine W_seq_k fun K26 k26 => ?_
   refine W_region [36, 2] rfl (Ops_step (R_move rfl) rfl rfl (Ops_step (R_assign rfl) rfl rfl ?_))
   refine Ops_nil ?_
   refine then_n (k26 _ _ ?_)
   clear k26 K26
   refine W_ret ?_
   refine ⟨_, ⟨_, _, rfl, rfl, rfl⟩, ?_⟩
   exact ⟨r13_0, (sealskinref02_Reader.mk x0.B_ (x0.At_ + 8) x0.E_), _, _, rfl, hI, ⟨_, ⟨A0_1, c0_1, rfl, ⟨hc0_1, hs0_1⟩⟩, ht0⟩, h⟩

theorem sealskinref02_Reader_Bytes_ok {G : Gh} {w : World} (hS : St G w) (hg : GL G) {d0 tb0 : Nat} {x0 : sealskinref02_Reader} (hr0 : Ob tb0 G G w d0 x0) {x1 : Int} {Q : (List UInt8) → sealskinref02_Reader → Prop} (h : sealskinref02_Reader_Bytes x0 x1 Q) : Calls Tryd.prog 86 #[.pointer (some ⟨d0, 0, none⟩), vi x1] w fun e w2 => ∃ (A0 : Option Addr) (c0 : Nat) (r0 : List UInt8) (y0 : sealskinref02_Reader) (L H : Gh), e = .returned (.slice A0 r0.length c0) ∧ Inv [d0] G w L H w2 ∧ OwnS w.heap.size 5 L H w2 A0 c0 r0 ∧ Ob tb0 H H w2 d0 y0 ∧ Q r0 y0 := by
 unfold sealskinref02_Reader_Bytes at h
 have hI := Inv.start (M := [d0]) hS
 refine calls_W 83 Tryd.func86 rfl Tryd.ntmps86 rfl [.tmp 4] rfl ?_
 obtain ⟨l0_, hl0_, ht0⟩ := hr0
 obtain ⟨A0_1, c0_1, rfl, ⟨hc0_1, hs0_1⟩⟩ := hl0_
 have hlt_d0 := ht0.blk.lt
 refine W_seq_k fun K1 k1 => ?_
 refine W_region [4] rfl (Ops_step (R_assign rfl) rfl rfl ?_)
 refine Ops_nil ?_
 refine then_n (k1 _ _ ?_)
 clear k1 K1
 refine W_seq_k fun K2 k2 => ?_
 refine W_seq_k fun K3 k3 => ?_
 refine W_region [8, 9, 10, 11, 12] rfl (Ops_step (R_move rfl) rfl rfl (Ops_step (R_nilCheck rfl) rfl rfl (Ops_step (R_fieldAddr fo69_2 rfl) rfl rfl ?_)))
 refine Ops_step (R_loadB (v := vi x0.E_) ag22 rfl ht0.blk rfl) rfl rfl ?_
 refine Ops_step (R_neq rfl rfl) rfl rfl ?_
 refine Ops_nil ?_
 refine then_n (k3 _ _ ?_)
 clear k3 K3
 refine W_if rfl (fun hc4_ => ?_) (fun hc4_ => ?_)
 ·
  replace h := h.1 hc4_
  refine W_seq_k fun K5 k5 => ?_
  refine W_region [4] rfl (Ops_step (R_assign rfl) rfl rfl ?_)
  refine Ops_nil ?_
  refine then_n (k5 _ _ ?_)
  clear k5 K5
  refine W_keepB [4] fun B_ b_ => ?_
  simp only [e_, Nat.reduceAdd, Nat.reduceBEq] at b_
  subst b_
  refine W_ret ?_
  refine then_ret ?_
  clear k2 K2
  refine ⟨_, ⟨_, _, rfl, rfl, rfl⟩, ?_⟩
  exact ⟨none, 0, [], x0, _, _, rfl, hI, OwnS.nil, ⟨_, ⟨A0_1, c0_1, rfl, ⟨hc0_1, hs0_1⟩⟩, ht0⟩, h⟩
 ·
  replace h := h.2 hc4_
  refine W_skip ?_
  refine then_n (k2 _ _ ?_)
  clear k2 K2
  refine W_keepB [0, 1] fun B_ b_ => ?_
  simp only [e_, Nat.reduceAdd, Nat.reduceBEq] at b_
  subst b_
  refine W_seq_k fun K8 k8 => ?_
  refine W_drawF [14, 15, 16, 17, 18, 19, 20, 21, 22, 23, 13, 24, 25, 5, 6] [(0, true), (1, true), (2, true), (3, true), (4, true), (5, true), (6, true), (7, true), (8, true), (9, false), (10, true), (11, true), (12, true), (13, true), (14, true)] TFtC.hm rfl (by kernel_rfl) fun ops9_ w9_ hops9_ hF9_ => ?_
  replace hI := hI.fr0 hF9_
  replace ht0 := ht0.fr0 hF9_
  clear hF9_
  refine HSp (R_move rfl) rfl rfl (HSp (R_nilCheck rfl) rfl rfl (HSp (R_fieldAddr fo69_0 rfl) rfl rfl ?_))
  refine HS_loadB (v := .slice A0_1 x0.B_.length c0_1) ag30 rfl ht0.blk rfl rfl rfl ?_
  refine HSp (R_move rfl) rfl rfl (HSp (R_nilCheck rfl) rfl rfl (HSp (R_fieldAddr fo69_1 rfl) rfl rfl ?_))
  refine HS_loadB (v := vi x0.At_) ag3 rfl ht0.blk rfl rfl rfl ?_
  have hk11_ := h.1
  replace h := h.2
  have hk12_ := h.1
  replace h := h.2
  refine Exists.elim (cut_ex (n := 1) (l := x0.At_) (h := (x0.B_.length : Int)) hs0_1 rfl (by decide) hc0_1 hk11_ hk12_ (Int.le_refl _)) fun A10_ h10_ => Exists.elim h10_ fun c10_ h10_ => ?_
  have hr10_ := h10_.1
  have hc10_ := h10_.2.1
  have hs10_ := h10_.2.2
  clear h10_
  refine HSp (X_slice (xs := x0.B_) Tryd.underlying30 sz5 rfl hr10_ hc0_1 rfl rfl hk11_ hk12_ (Int.le_refl _)) rfl rfl ?_
  clear hr10_
  refine HS_call [] _ rfl (by rw [hops9_]; kernel_rfl) (C_func bd71 rfl) rfl rfl ?_
  refine (sealskinref02_number_ok (x0 := (cut x0.B_ x0.At_ (x0.B_.length : Int))) hI.st (hg.up hI.le) hc10_ hs10_ h).mono ?_
  rintro _ w13_ ⟨r13_0, r13_1, L13_, H13_, rfl, hI13_, h⟩
  refine Exists.elim (hI.call hI13_ (by simp)) fun L130_ h13_ => ?_
  have hz13_ := hI.size
  replace hI := h13_.1
  have u13_ := h13_.2.1
  have hl13_ := h13_.2.2
  clear h13_
  replace hs0_1 := hs0_1.up u13_.hh
  replace ht0 := ht0.up u13_ (by simp)
  clear hI13_ u13_ hl13_
  refine ⟨_, rfl, trivial, ?_⟩
  refine HSp (R_move rfl) rfl rfl ?_
  refine HSp (R_extract (v := vi r13_0) rfl rfl) rfl rfl ?_
  refine HSp (R_extract (v := vi r13_1) rfl rfl) rfl rfl ?_
  refine HSp (R_assign rfl) rfl rfl (HSp (R_assign rfl) rfl rfl ?_)
  refine HS_nil ?_
  clear hops9_
  refine then_n (k8 _ _ ?_)
  clear k8 K8
  refine W_keepB [0, 1, 5, 6] fun B_ b_ => ?_
  simp only [e_, Nat.reduceAdd, Nat.reduceBEq] at b_
  subst b_
  refine ex_ h fun J15_ hr15_ h => ?_
  refine W_seq_join [0, 5] [6] (fun vals_ w2 => ∃ (x6_15 : Int) (L H : Gh), vals_ = [vi x6_15] ∧ J15_ x6_15 ∧ Inv [d0] G w L H w2 ∧ Le L130_ L ∧ Le H13_ H ∧ Tok H w2 d0 tb0 ([.slice A0_1 x0.B_.length c0_1, vi x0.At_, vi x0.E_]) ∧ True) (fun B_ b_ => ?_) (fun B_ b_ => ?_)
  ·
   simp only [e_, Nat.reduceAdd, Nat.reduceBEq] at b_
   subst b_
   clear hr15_
   have hll15_ := Le.refl L130_
   have hhh15_ := Le.refl H13_
   refine ex_ h fun J16_ hr16_ h => ?_
   refine W_seq_join [0, 5, 6] [36] (fun vals_ w2 => ∃ (x36_16 : Bool) (L H : Gh), vals_ = [.bool x36_16] ∧ J16_ x36_16 ∧ Inv [d0] G w L H w2 ∧ Le L130_ L ∧ Le H13_ H ∧ Tok H w2 d0 tb0 ([.slice A0_1 x0.B_.length c0_1, vi x0.At_, vi x0.E_]) ∧ True) (fun B_ b_ => ?_) (fun B_ b_ => ?_)
   ·
    simp only [e_, Nat.reduceAdd, Nat.reduceBEq] at b_
    subst b_
    clear hr16_
    have hll16_ := Le.refl L130_
    have hhh16_ := Le.refl H13_
    refine W_region [26, 27, 28, 29, 30, 31, 32, 33, 34, 35, 36] rfl (Ops_step (R_move rfl) rfl rfl (Ops_step (R_eql rfl rfl) rfl rfl (Ops_step (R_move rfl) rfl rfl ?_)))
    refine Ops_split 28 rfl (fun hg17_ => ?_) (fun hg17_ => ?_)
    ·
     replace h := h.1 hg17_
     refine Ops_step (R_move rfl) rfl rfl (Ops_step (R_gtr rfl rfl) rfl rfl (Ops_step (R_pick_true rfl rfl) rfl rfl (Ops_step (R_move rfl) rfl rfl ?_)))
     refine Ops_split 32 rfl (fun hg18_ => ?_) (fun hg18_ => ?_)
     ·
      replace h := h.1 hg18_
      refine Ops_step (R_move rfl) rfl rfl (Ops_step (R_move rfl) rfl rfl (Ops_step (R_gtr rfl rfl) rfl rfl (Ops_step (R_pick_true rfl rfl) rfl rfl ?_)))
      refine Ops_nil ?_
      refine then_n ?_
      exact ⟨_, rfl, ⟨(decide (r13_0 > x1)), _, _, rfl, h, hI, hll16_, hhh16_, ht0, trivial⟩, ⟨rfl, rfl, rfl, trivial⟩⟩
     ·
      replace h := h.2 hg18_
      refine Ops_pass rfl rfl (Ops_pass rfl rfl (Ops_pass rfl rfl (Ops_step (R_pick_false rfl rfl) rfl rfl ?_)))
      refine Ops_nil ?_
      refine then_n ?_
      exact ⟨_, rfl, ⟨false, _, _, rfl, h, hI, hll16_, hhh16_, ht0, trivial⟩, ⟨rfl, rfl, rfl, trivial⟩⟩
    ·
     replace h := h.2 hg17_
     refine Ops_pass rfl rfl (Ops_pass rfl rfl (Ops_step (R_pick_false rfl rfl) rfl rfl (Ops_step (R_move rfl) rfl rfl (Ops_pass rfl rfl ?_))))
     refine Ops_pass rfl rfl (Ops_pass rfl rfl (Ops_step (R_pick_false rfl rfl) rfl rfl ?_))
     refine Ops_nil ?_
     refine then_n ?_
     exact ⟨_, rfl, ⟨false, _, _, rfl, h, hI, hll16_, hhh16_, ht0, trivial⟩, ⟨rfl, rfl, rfl, trivial⟩⟩
   ·
    simp only [e_, Nat.reduceAdd, Nat.reduceBEq] at b_
    subst b_
    clear h
    clear ht0
    rintro _ w16_ ⟨x36_16, L16_, H16_, rfl, hJ16_, hI16_, hll16_, hhh16_, ht0, -⟩
    replace hI := hI16_
    clear hI16_
    have h := hr16_ x36_16 hJ16_
    clear hr16_ hJ16_
    replace hs0_1 := hs0_1.up hhh16_
    replace hll15_ := hll15_.trans hll16_
    replace hhh15_ := hhh15_.trans hhh16_
    refine W_cond rfl (fun hc19_ => ?_) (fun hc19_ => ?_)
    ·
     replace h := h.1 hc19_
     refine W_region [6] rfl (Ops_step (R_assign rfl) rfl rfl ?_)
     refine Ops_nil ?_
     refine then_n ?_
     exact ⟨_, rfl, ⟨4, _, _, rfl, h, hI, hll15_, hhh15_, ht0, trivial⟩, ⟨rfl, rfl, trivial⟩⟩
    ·
     replace h := h.2 hc19_
     refine W_skip ?_
     refine then_n ?_
     exact ⟨_, rfl, ⟨r13_1, _, _, rfl, h, hI, hll15_, hhh15_, ht0, trivial⟩, ⟨rfl, rfl, trivial⟩⟩
  ·
   simp only [e_, Nat.reduceAdd, Nat.reduceBEq] at b_
   subst b_
   clear h
   clear ht0
   rintro _ w15_ ⟨x6_15, L15_, H15_, rfl, hJ15_, hI15_, hll15_, hhh15_, ht0, -⟩
   replace hI := hI15_
   clear hI15_
   have h := hr15_ x6_15 hJ15_
   clear hr15_ hJ15_
   replace hs0_1 := hs0_1.up hhh15_
   refine ex_ h fun J20_ hr20_ h => ?_
   refine W_seq_join [0, 5] [6] (fun vals_ w2 => ∃ (x6_20 : Int) (L H : Gh), vals_ = [vi x6_20] ∧ J20_ x6_20 ∧ Inv [d0] G w L H w2 ∧ Le L15_ L ∧ Le H15_ H ∧ Tok H w2 d0 tb0 ([.slice A0_1 x0.B_.length c0_1, vi x0.At_, vi x0.E_]) ∧ True) (fun B_ b_ => ?_) (fun B_ b_ => ?_)
   ·
    simp only [e_, Nat.reduceAdd, Nat.reduceBEq] at b_
    subst b_
    clear hr20_
    have hll20_ := Le.refl L15_
    have hhh20_ := Le.refl H15_
    refine ex_ h fun J21_ hr21_ h => ?_
    refine W_seq_join [0, 5, 6] [53] (fun vals_ w2 => ∃ (x53_21 : Bool) (L H : Gh), vals_ = [.bool x53_21] ∧ J21_ x53_21 ∧ Inv [d0] G w L H w2 ∧ Le L15_ L ∧ Le H15_ H ∧ Tok H w2 d0 tb0 ([.slice A0_1 x0.B_.length c0_1, vi x0.At_, vi x0.E_]) ∧ True) (fun B_ b_ => ?_) (fun B_ b_ => ?_)
    ·
     simp only [e_, Nat.reduceAdd, Nat.reduceBEq] at b_
     subst b_
     clear hr21_
     have hll21_ := Le.refl L15_
     have hhh21_ := Le.refl H15_
     refine W_drawF [37, 38, 39, 40, 41, 42, 43, 44, 45, 46, 47, 48, 49, 50, 51, 52, 53] [(0, true), (1, true), (2, true), (3, true), (4, true), (5, true), (6, true), (7, true), (8, true), (9, true), (10, true), (11, true), (12, true), (13, true), (14, true), (15, true), (16, true)] TFtC.hm rfl (by kernel_rfl) fun ops22_ w22_ hops22_ hF22_ => ?_
     replace hI := hI.fr0 hF22_
     replace ht0 := ht0.fr0 hF22_
     clear hF22_
     refine HSp (R_move rfl) rfl rfl (HSp (R_eql rfl rfl) rfl rfl (HSp (R_move rfl) rfl rfl ?_))
     refine HS_split 39 rfl (fun hg23_ => ?_) (fun hg23_ => ?_)
     ·
      replace h := h.1 hg23_
      refine HSp (R_move rfl) rfl rfl (HSp (R_move rfl) rfl rfl (HSp (R_nilCheck rfl) rfl rfl (HSp (R_fieldAddr fo69_0 rfl) rfl rfl ?_)))
      refine HS_loadB (v := .slice A0_1 x0.B_.length c0_1) ag30 rfl ht0.blk rfl rfl rfl ?_
      refine HSp (R_len Tryd.underlying30 rfl rfl) rfl rfl (HSp (R_move rfl) rfl rfl (HSp (R_nilCheck rfl) rfl rfl (HSp (R_fieldAddr fo69_1 rfl) rfl rfl ?_)))
      refine HS_loadB (v := vi x0.At_) ag3 rfl ht0.blk rfl rfl rfl ?_
      have hk24_ := h.1
      replace h := h.2
      refine HSp (R_sub rfl rfl (wI hk24_.1 hk24_.2)) rfl rfl ?_
      have hk25_ := h.1
      replace h := h.2
      refine HSp (R_sub rfl rfl (wI hk25_.1 hk25_.2)) rfl rfl (HSp (R_gtr rfl rfl) rfl rfl (HSp (R_pick_true rfl rfl) rfl rfl ?_))
      refine HS_nil ?_
      clear hops22_
      refine then_n ?_
      exact ⟨_, rfl, ⟨(decide (r13_0 > (((x0.B_.length : Int) - x0.At_) - 8))), _, _, rfl, h, hI, hll21_, hhh21_, ht0, trivial⟩, ⟨rfl, rfl, rfl, trivial⟩⟩
     ·
      replace h := h.2 hg23_
      refine HS_pass rfl rfl ?_
      refine HS_pass rfl rfl ?_
      refine HS_pass rfl rfl ?_
      refine HS_pass rfl rfl ?_
      refine HS_pass rfl rfl ?_
      refine HS_pass rfl rfl ?_
      refine HS_pass rfl rfl ?_
      refine HS_pass rfl rfl ?_
      refine HS_pass rfl rfl ?_
      refine HS_pass rfl rfl ?_
      refine HS_pass rfl rfl ?_
      refine HS_pass rfl rfl ?_
      refine HS_pass rfl rfl ?_
      refine HSp (R_pick_false rfl rfl) rfl rfl ?_
      refine HS_nil ?_
      clear hops22_
      refine then_n ?_
      exact ⟨_, rfl, ⟨false, _, _, rfl, h, hI, hll21_, hhh21_, ht0, trivial⟩, ⟨rfl, rfl, rfl, trivial⟩⟩
    ·
     simp only [e_, Nat.reduceAdd, Nat.reduceBEq] at b_
     subst b_
     clear h
     clear ht0
     rintro _ w21_ ⟨x53_21, L21_, H21_, rfl, hJ21_, hI21_, hll21_, hhh21_, ht0, -⟩
     replace hI := hI21_
     clear hI21_
     have h := hr21_ x53_21 hJ21_
     clear hr21_ hJ21_
     replace hs0_1 := hs0_1.up hhh21_
     replace hll20_ := hll20_.trans hll21_
     replace hhh20_ := hhh20_.trans hhh21_
     refine W_cond rfl (fun hc26_ => ?_) (fun hc26_ => ?_)
     ·
      replace h := h.1 hc26_
      refine W_region [6] rfl (Ops_step (R_assign rfl) rfl rfl ?_)
      refine Ops_nil ?_
      refine then_n ?_
      exact ⟨_, rfl, ⟨2, _, _, rfl, h, hI, hll20_, hhh20_, ht0, trivial⟩, ⟨rfl, rfl, trivial⟩⟩
     ·
      replace h := h.2 hc26_
      refine W_skip ?_
      refine then_n ?_
      exact ⟨_, rfl, ⟨x6_15, _, _, rfl, h, hI, hll20_, hhh20_, ht0, trivial⟩, ⟨rfl, rfl, trivial⟩⟩
   ·
    simp only [e_, Nat.reduceAdd, Nat.reduceBEq] at b_
    subst b_
    clear h
    clear ht0
    rintro _ w20_ ⟨x6_20, L20_, H20_, rfl, hJ20_, hI20_, hll20_, hhh20_, ht0, -⟩
    replace hI := hI20_
    clear hI20_
    have h := hr20_ x6_20 hJ20_
    clear hr20_ hJ20_
    replace hs0_1 := hs0_1.up hhh20_
    refine W_seq_k fun K27 k27 => ?_
    refine W_seq_k fun K28 k28 => ?_
    refine W_region [54, 55] rfl (Ops_step (R_move rfl) rfl rfl (Ops_step (R_neq rfl rfl) rfl rfl ?_))
    refine Ops_nil ?_
    refine then_n (k28 _ _ ?_)
    clear k28 K28
    refine W_if rfl (fun hc29_ => ?_) (fun hc29_ => ?_)
    ·
     replace h := h.1 hc29_
     refine W_seq_k fun K30 k30 => ?_
     refine W_region [56, 57, 58, 59, none] rfl (Ops_step (R_move rfl) rfl rfl (Ops_step (R_move rfl) rfl rfl (Ops_step (R_nilCheck rfl) rfl rfl (Ops_step (R_fieldAddr fo69_2 rfl) rfl rfl ?_))))
     refine Ops_to0 (R_store sz22 rfl rfl ht0.blk (by show 2 < 3; decide) rfl) rfl ?_
     rintro _ w31_ ⟨hB31_, hF31_⟩
     replace hI := hI.tok hF31_ (out1 ht0.out) (mem1 (by simp))
     replace ht0 : Tok H20_ _ d0 tb0 ([.slice A0_1 x0.B_.length c0_1, vi x0.At_, vi x6_20]) := ⟨hB31_, ht0.out⟩
     clear hF31_ hB31_
     refine Ops_nil ?_
     refine then_n (k30 _ _ ?_)
     clear k30 K30
     refine W_keepB [] fun B_ b_ => ?_
     simp only [e_, Nat.reduceAdd, Nat.reduceBEq] at b_
     subst b_
     refine W_seq_k fun K33 k33 => ?_
     refine W_region [4] rfl (Ops_step (R_assign rfl) rfl rfl ?_)
     refine Ops_nil ?_
     refine then_n (k33 _ _ ?_)
     clear k33 K33
     refine W_ret ?_
     refine then_ret ?_
     clear k27 K27
     refine ⟨_, ⟨_, _, rfl, rfl, rfl⟩, ?_⟩
     exact ⟨none, 0, [], (sealskinref02_Reader.mk x0.B_ x0.At_ x6_20), _, _, rfl, hI, OwnS.nil, ⟨_, ⟨A0_1, c0_1, rfl, ⟨hc0_1, hs0_1⟩⟩, ht0⟩, h⟩
    ·
     replace h := h.2 hc29_
     refine W_skip ?_
     refine then_n (k27 _ _ ?_)
     clear k27 K27
     refine W_seq_k fun K34 k34 => ?_
     refine W_region [60, 61, 62, 63, 64, 7] rfl (Ops_step (R_move rfl) rfl rfl (Ops_step (R_nilCheck rfl) rfl rfl (Ops_step (R_fieldAddr fo69_1 rfl) rfl rfl ?_)))
     refine Ops_step (R_loadB (v := vi x0.At_) ag3 rfl ht0.blk rfl) rfl rfl ?_
     have hk35_ := h.1
     replace h := h.2
     refine Ops_step (R_add rfl rfl (wI hk35_.1 hk35_.2)) rfl rfl (Ops_step (R_assign rfl) rfl rfl ?_)
     refine Ops_nil ?_
     refine then_n (k34 _ _ ?_)
     clear k34 K34
     refine W_keepB [0, 5, 7] fun B_ b_ => ?_
     simp only [e_, Nat.reduceAdd, Nat.reduceBEq] at b_
     subst b_
     refine W_seq_k fun K37 k37 => ?_
     refine W_region [65, 66, 67, 68, 69, 70, none] rfl (Ops_step (R_move rfl) rfl rfl (Ops_step (R_move rfl) rfl rfl (Ops_step (R_move rfl) rfl rfl ?_)))
     have hk38_ := h.1
     replace h := h.2
     refine Ops_step (R_add rfl rfl (wI hk38_.1 hk38_.2)) rfl rfl (Ops_step (R_nilCheck rfl) rfl rfl (Ops_step (R_fieldAddr fo69_1 rfl) rfl rfl ?_))
     refine Ops_to0 (R_store sz3 rfl rfl ht0.blk (by show 1 < 3; decide) rfl) rfl ?_
     rintro _ w39_ ⟨hB39_, hF39_⟩
     replace hI := hI.tok hF39_ (out1 ht0.out) (mem1 (by simp))
     replace ht0 : Tok H20_ _ d0 tb0 ([.slice A0_1 x0.B_.length c0_1, vi ((x0.At_ + 8) + r13_0), vi x0.E_]) := ⟨hB39_, ht0.out⟩
     clear hF39_ hB39_
     refine Ops_nil ?_
     refine then_n (k37 _ _ ?_)
     clear k37 K37
     refine W_keepB [0, 7] fun B_ b_ => ?_
     simp only [e_, Nat.reduceAdd, Nat.reduceBEq] at b_
     subst b_
     refine W_seq_k fun K41 k41 => ?_
     refine W_drawF [71, 72, 73, 74, 75, 76, 77, 78, 79, 80, 81, 82, 4] [(1, true), (2, true), (3, true), (4, true), (5, true), (6, true), (7, true), (8, true), (9, true), (10, true), (0, false), (11, false), (12, true)] TFtC.hm rfl (by kernel_rfl) fun ops42_ w42_ hops42_ hF42_ => ?_
     replace hI := hI.fr0 hF42_
     replace ht0 := ht0.fr0 hF42_
     clear hF42_
     refine HSp (R_move rfl) rfl rfl (HSp (R_nilCheck rfl) rfl rfl (HSp (R_fieldAddr fo69_0 rfl) rfl rfl ?_))
     refine HS_loadB (v := .slice A0_1 x0.B_.length c0_1) ag30 rfl ht0.blk rfl rfl rfl ?_
     refine HSp (R_move rfl) rfl rfl (HSp (R_move rfl) rfl rfl (HSp (R_nilCheck rfl) rfl rfl (HSp (R_fieldAddr fo69_1 rfl) rfl rfl ?_)))
     refine HS_loadB (v := vi ((x0.At_ + 8) + r13_0)) ag3 rfl ht0.blk rfl rfl rfl ?_
     have hk44_ := h.1
     replace h := h.2
     have hk45_ := h.1
     replace h := h.2
     have hk46_ := h.1
     replace h := h.2
     refine Exists.elim (cut_ex (n := 1) (l := (x0.At_ + 8)) (h := ((x0.At_ + 8) + r13_0)) hs0_1 rfl (by decide) hc0_1 hk44_ hk45_ hk46_) fun A43_ h43_ => Exists.elim h43_ fun c43_ h43_ => ?_
     have hr43_ := h43_.1
     have hc43_ := h43_.2.1
     have hs43_ := h43_.2.2
     clear h43_
     refine HSp (X_slice (xs := x0.B_) Tryd.underlying30 sz5 rfl hr43_ hc0_1 rfl rfl hk44_ hk45_ hk46_) rfl rfl ?_
     clear hr43_
     refine HS_to [9, 4] _ rfl (by rw [hops42_]; kernel_rfl) (R_buildSlice0 el30) rfl rfl ?_
     rintro _ w47_ ⟨b47_, rfl, hb47_, hB47_, hF47_⟩
     have ho47_ : OwnS w.heap.size 5 Gh.no H20_ _ (some ⟨b47_, 0, none⟩) 0 ([] : List UInt8) := OwnS.ofBlk hI.st hb47_ hB47_ (all2_sc' _) rfl (by have := hI.size; omega) (by show 0 ≤ maxLen; decide)
     replace hI := hI.fr0 hF47_
     replace ht0 := ht0.fr0 hF47_
     clear hF47_ hB47_
     refine ⟨⟨(ht0.blk.at_ rfl), (ht0.blk.at_ rfl), trivial⟩, ?_⟩
     have hk49_ := h.1
     replace h := h.2
     refine HS_to [] _ rfl (by rw [hops42_]; kernel_rfl) (X_append (α := UInt8) (xs := ([] : List UInt8)) (ys := (cut x0.B_ (x0.At_ + 8) ((x0.At_ + 8) + r13_0))) el30 rfl rfl ho47_ (Srcs.sc (Srcs.ofSl Tryd.underlying30 hs43_ hI.st (by decide))) hI.st hk49_ (by decide) hI.size) rfl rfl ?_
     rintro _ w48_ ⟨A48_, c48_, rfl, ho48_, hF48_, hbk48_⟩
     clear hbk48_
     replace hI := hI.tok hF48_ ho47_.out (ho47_.new (Nat.le_refl _))
     replace ht0 := ht0.fr hF48_ (ho47_.old hlt_d0)
     clear hF48_ ho47_
     refine ⟨trivial, ?_⟩
     refine HSp (R_assign rfl) rfl rfl ?_
     refine HS_nil ?_
     clear hops42_
     refine then_n (k41 _ _ ?_)
     clear k41 K41
     refine W_keepB [4] fun B_ b_ => ?_
     simp only [e_, Nat.reduceAdd, Nat.reduceBEq] at b_
     subst b_
     refine W_ret ?_
     refine ⟨_, ⟨_, _, rfl, rfl, rfl⟩, ?_⟩
     exact ⟨A48_, c48_, (([] : List UInt8) ++ (cut x0.B_ (x0.At_ + 8) ((x0.At_ + 8) + r13_0))), (sealskinref02_Reader.mk x0.B_ ((x0.At_ + 8) + r13_0) x0.E_), _, _, rfl, hI, (ho48_.hl (Le.no _)), ⟨_, ⟨A0_1, c0_1, rfl, ⟨hc0_1, hs0_1⟩⟩, ht0⟩, h⟩

theorem sealskinref02_Runes_ok {G : Gh} {w : World} (hS : St G w) (hg : GL G) {A0 : Option Addr} {c0 : Nat} {x0 : List UInt8} (hc0 : x0.length ≤ c0) (hs0 : Sl G A0 x0) {Q : Int → Prop} (h : sealskinref02_Runes x0 Q) : Calls Tryd.prog 87 #[.slice A0 x0.length c0] w fun e w2 => ∃ (r0 : Int) (L H : Gh), e = .returned (vi r0) ∧ Inv [] G w L H w2 ∧ Q r0 := by
 unfold sealskinref02_Runes at h
 have hI := Inv.start (M := []) hS
 refine calls_W 80 Tryd.func87 rfl Tryd.ntmps87 rfl [.tmp 2] rfl ?_
 refine W_seq_k fun K1 k1 => ?_
 refine W_region [2] rfl (Ops_step (R_assign rfl) rfl rfl ?_)
 refine Ops_nil ?_
 refine then_n (k1 _ _ ?_)
 clear k1 K1
 refine W_seq_k fun K2 k2 => ?_
 refine W_region [3] rfl (Ops_step (R_assign rfl) rfl rfl ?_)
 refine Ops_nil ?_
 refine then_n (k2 _ _ ?_)
 clear k2 K2
 refine ex_ h fun J3_ hr3_ h => ?_
 refine W_seq_join [] [3] (fun vals_ w2 => ∃ (x3_3 : Int) (L H : Gh), vals_ = [vi x3_3] ∧ J3_ x3_3 ∧ Inv [] G w L H w2 ∧ Le Gh.no L ∧ Le G H ∧ True) (fun B_ b_ => ?_) (fun B_ b_ => ?_)
 ·
  simp only [e_, Nat.reduceAdd, Nat.reduceBEq] at b_
  subst b_
  clear hr3_
  have hll3_ := Le.refl Gh.no
  have hhh3_ := Le.refl G
  refine W_block ?_
  refine Exists.elim h fun I4_ h => Exists.elim h fun n4_ h => ?_
  have h0_ := h.1
  have hs4_ := h.2
  clear h
  refine W_loopB [] [0, 3] (fun m vals_ w2 => ∃ (x0_4 : List UInt8) (A0_4 : Option Addr) (c0_4 : Nat) (x3_4 : Int) (L H : Gh), vals_ = [.slice A0_4 x0_4.length c0_4, vi x3_4] ∧ I4_ m x0_4 x3_4 ∧ Inv [] G w L H w2 ∧ Le Gh.no L ∧ Le G H ∧ x0_4.length ≤ c0_4 ∧ Sl H A0_4 x0_4 ∧ True) n4_ _ rfl ⟨x0, A0, c0, 0, _, _, rfl, h0_, hI, Le.refl _, Le.refl _, hc0, hs0, trivial⟩ fun B_ b_ => ?_
  clear h0_
  simp only [e_, Nat.reduceAdd, Nat.reduceBEq] at b_
  subst b_
  rintro m4_ _ w4_ ⟨x0_4, A0_4, c0_4, x3_4, L4_, H4_, rfl, hJ4_, hI4_, hll4_, hhh4_, hc0_4, hs0_4, -⟩
  replace hI := hI4_
  clear hI4_
  have h := hs4_ m4_ x0_4 x3_4 hJ4_
  clear hs4_ hJ4_
  replace hll3_ := hll3_.trans hll4_
  replace hhh3_ := hhh3_.trans hhh4_
  refine W_seq_k fun K5 k5 => ?_
  refine W_seq_k fun K6 k6 => ?_
  refine W_region [9, 10, 11] rfl (Ops_step (R_move rfl) rfl rfl (Ops_step (R_len Tryd.underlying30 rfl rfl) rfl rfl (Ops_step (R_gtr rfl rfl) rfl rfl ?_)))
  refine Ops_nil ?_
  refine then_n (k6 _ _ ?_)
  clear k6 K6
  refine W_if rfl (fun hc7_ => ?_) (fun hc7_ => ?_)
  ·
   replace h := h.1 hc7_
   refine W_skip ?_
   refine then_n (k5 _ _ ?_)
   clear k5 K5
   refine W_block ?_
   refine W_seq_k fun K8 k8 => ?_
   refine W_region [4] rfl (Ops_step (R_assign rfl) rfl rfl ?_)
   refine Ops_nil ?_
   refine then_n (k8 _ _ ?_)
   clear k8 K8
   refine W_seq_k fun K9 k9 => ?_
   refine W_region [5, 6] rfl (Ops_step (R_assign rfl) rfl rfl (Ops_step (R_assign rfl) rfl rfl ?_))
   refine Ops_nil ?_
   refine then_n (k9 _ _ ?_)
   clear k9 K9
   refine ex_ h fun J10_ hr10_ h => ?_
   refine W_seq_join [0, 3] [4, 5, 6] (fun vals_ w2 => ∃ (x4_10 : Int) (x5_10 : UInt8) (x6_10 : UInt8) (L H : Gh), vals_ = [vi x4_10, vb x5_10, vb x6_10] ∧ J10_ x4_10 x5_10 x6_10 ∧ Inv [] G w L H w2 ∧ Le L4_ L ∧ Le H4_ H ∧ True) (fun B_ b_ => ?_) (fun B_ b_ => ?_)
   ·
    simp only [e_, Nat.reduceAdd, Nat.reduceBEq] at b_
    subst b_
    clear hr10_
    have hll10_ := Le.refl L4_
    have hhh10_ := Le.refl H4_
    refine W_seq_k fun K11 k11 => ?_
    refine W_region [12, 13, 14, 7] rfl (Ops_step (R_move rfl) rfl rfl ?_)
    refine ex_ h fun x12_ hx12_ h => ?_
    have ha12_ := (hs0_4.atS hx12_).1
    have hg12_ := (hs0_4.atS hx12_).2
    refine Ops_step (R_indexSl Tryd.underlying30 sz5 rfl rfl hx12_.1 hx12_.lt ha12_) rfl rfl (Ops_step (R_load ag5 rfl (hI.st _ _ hg12_)) rfl rfl (Ops_step (R_assign rfl) rfl rfl ?_))
    refine Ops_nil ?_
    refine then_n (k11 _ _ ?_)
    clear k11 K11
    refine W_keepB [0, 3, 4, 5, 6, 7] fun B_ b_ => ?_
    simp only [e_, Nat.reduceAdd, Nat.reduceBEq] at b_
    subst b_
    refine W_block ?_
    refine W_seq_k fun K14 k14 => ?_
    refine W_region [16, 17, 15] rfl (Ops_step (R_move rfl) rfl rfl (Ops_step (R_lss rfl rfl) rfl rfl (Ops_step (R_assign rfl) rfl rfl ?_)))
    refine Ops_nil ?_
    refine then_n (k14 _ _ ?_)
    clear k14 K14
    refine W_if rfl (fun hc15_ => ?_) (fun hc15_ => ?_)
    ·
     replace h := h.1 hc15_
     refine W_region [4] rfl (Ops_step (R_assign rfl) rfl rfl ?_)
     refine Ops_nil ?_
     refine block_n ?_
     refine then_n ?_
     exact ⟨_, rfl, ⟨1, (128 : UInt8), (191 : UInt8), _, _, rfl, h, hI, hll10_, hhh10_, trivial⟩, ⟨rfl, rfl, trivial⟩⟩
    ·
     replace h := h.2 hc15_
     refine ex_ h fun J16_ hr16_ h => ?_
     refine W_seq_join [0, 3, 4, 5, 6, 7] [18] (fun vals_ w2 => ∃ (x18_16 : Bool) (L H : Gh), vals_ = [.bool x18_16] ∧ J16_ x18_16 ∧ Inv [] G w L H w2 ∧ Le L4_ L ∧ Le H4_ H ∧ True) (fun B_ b_ => ?_) (fun B_ b_ => ?_)
     ·
      simp only [e_, Nat.reduceAdd, Nat.reduceBEq] at b_
      subst b_
      clear hr16_
      have hll16_ := Le.refl L4_
      have hhh16_ := Le.refl H4_
      refine W_region [19, 20, 21, 22, 23, 24, 18] rfl (Ops_step (R_move rfl) rfl rfl (Ops_step (R_geq rfl rfl) rfl rfl (Ops_step (R_move rfl) rfl rfl ?_)))
      refine Ops_split 21 rfl (fun hg17_ => ?_) (fun hg17_ => ?_)
      ·
       replace h := h.1 hg17_
       refine Ops_step (R_move rfl) rfl rfl (Ops_step (R_leq rfl rfl) rfl rfl (Ops_step (R_pick_true rfl rfl) rfl rfl (Ops_step (R_assign rfl) rfl rfl ?_)))
       refine Ops_nil ?_
       refine then_n ?_
       exact ⟨_, rfl, ⟨(decide ((x12_.toNat : Int) ≤ 223)), _, _, rfl, h, hI, hll16_, hhh16_, trivial⟩, ⟨rfl, rfl, rfl, rfl, rfl, rfl, trivial⟩⟩
      ·
       replace h := h.2 hg17_
       refine Ops_pass rfl rfl (Ops_pass rfl rfl (Ops_step (R_pick_false rfl rfl) rfl rfl (Ops_step (R_assign rfl) rfl rfl ?_)))
       refine Ops_nil ?_
       refine then_n ?_
       exact ⟨_, rfl, ⟨false, _, _, rfl, h, hI, hll16_, hhh16_, trivial⟩, ⟨rfl, rfl, rfl, rfl, rfl, rfl, trivial⟩⟩
     ·
      simp only [e_, Nat.reduceAdd, Nat.reduceBEq] at b_
      subst b_
      clear h
      rintro _ w16_ ⟨x18_16, L16_, H16_, rfl, hJ16_, hI16_, hll16_, hhh16_, -⟩
      replace hI := hI16_
      clear hI16_
      have h := hr16_ x18_16 hJ16_
      clear hr16_ hJ16_
      replace hll3_ := hll3_.trans hll16_
      replace hhh3_ := hhh3_.trans hhh16_
      replace hs0_4 := hs0_4.up hhh16_
      replace hll4_ := hll4_.trans hll16_
      replace hhh4_ := hhh4_.trans hhh16_
      replace hll10_ := hll10_.trans hll16_
      replace hhh10_ := hhh10_.trans hhh16_
      refine W_cond rfl (fun hc18_ => ?_) (fun hc18_ => ?_)
      ·
       replace h := h.1 hc18_
       refine W_region [4] rfl (Ops_step (R_assign rfl) rfl rfl ?_)
       refine Ops_nil ?_
       refine block_n ?_
       refine then_n ?_
       exact ⟨_, rfl, ⟨2, (128 : UInt8), (191 : UInt8), _, _, rfl, h, hI, hll10_, hhh10_, trivial⟩, ⟨rfl, rfl, trivial⟩⟩
      ·
       replace h := h.2 hc18_
       refine ex_ h fun J19_ hr19_ h => ?_
       refine W_seq_join [0, 3, 4, 5, 6, 7] [25] (fun vals_ w2 => ∃ (x25_19 : Bool) (L H : Gh), vals_ = [.bool x25_19] ∧ J19_ x25_19 ∧ Inv [] G w L H w2 ∧ Le L16_ L ∧ Le H16_ H ∧ True) (fun B_ b_ => ?_) (fun B_ b_ => ?_)
       ·
        simp only [e_, Nat.reduceAdd, Nat.reduceBEq] at b_
        subst b_
        clear hr19_
        have hll19_ := Le.refl L16_
        have hhh19_ := Le.refl H16_
        refine W_region [26, 27, 28, 29, 30, 31, 25] rfl (Ops_step (R_move rfl) rfl rfl (Ops_step (R_geq rfl rfl) rfl rfl (Ops_step (R_move rfl) rfl rfl ?_)))
        refine Ops_split 28 rfl (fun hg20_ => ?_) (fun hg20_ => ?_)
        ·
         replace h := h.1 hg20_
         refine Ops_step (R_move rfl) rfl rfl (Ops_step (R_leq rfl rfl) rfl rfl (Ops_step (R_pick_true rfl rfl) rfl rfl (Ops_step (R_assign rfl) rfl rfl ?_)))
         refine Ops_nil ?_
         refine then_n ?_
         exact ⟨_, rfl, ⟨(decide ((x12_.toNat : Int) ≤ 239)), _, _, rfl, h, hI, hll19_, hhh19_, trivial⟩, ⟨rfl, rfl, rfl, rfl, rfl, rfl, trivial⟩⟩
        ·
         replace h := h.2 hg20_
         refine Ops_pass rfl rfl (Ops_pass rfl rfl (Ops_step (R_pick_false rfl rfl) rfl rfl (Ops_step (R_assign rfl) rfl rfl ?_)))
         refine Ops_nil ?_
         refine then_n ?_
         exact ⟨_, rfl, ⟨false, _, _, rfl, h, hI, hll19_, hhh19_, trivial⟩, ⟨rfl, rfl, rfl, rfl, rfl, rfl, trivial⟩⟩
       ·
        simp only [e_, Nat.reduceAdd, Nat.reduceBEq] at b_
        subst b_
        clear h
        rintro _ w19_ ⟨x25_19, L19_, H19_, rfl, hJ19_, hI19_, hll19_, hhh19_, -⟩
        replace hI := hI19_
        clear hI19_
        have h := hr19_ x25_19 hJ19_
        clear hr19_ hJ19_
        replace hll3_ := hll3_.trans hll19_
        replace hhh3_ := hhh3_.trans hhh19_
        replace hs0_4 := hs0_4.up hhh19_
        replace hll4_ := hll4_.trans hll19_
        replace hhh4_ := hhh4_.trans hhh19_
        replace hll10_ := hll10_.trans hll19_
        replace hhh10_ := hhh10_.trans hhh19_
        refine W_cond rfl (fun hc21_ => ?_) (fun hc21_ => ?_)
        ·
         replace h := h.1 hc21_
         refine W_seq_k fun K22 k22 => ?_
         refine W_region [4] rfl (Ops_step (R_assign rfl) rfl rfl ?_)
         refine Ops_nil ?_
         refine then_n (k22 _ _ ?_)
         clear k22 K22
         refine ex_ h fun J23_ hr23_ h => ?_
         refine W_seq_join [0, 3, 4, 6, 7] [5] (fun vals_ w2 => ∃ (x5_23 : UInt8) (L H : Gh), vals_ = [vb x5_23] ∧ J23_ x5_23 ∧ Inv [] G w L H w2 ∧ Le L19_ L ∧ Le H19_ H ∧ True) (fun B_ b_ => ?_) (fun B_ b_ => ?_)
         ·
          simp only [e_, Nat.reduceAdd, Nat.reduceBEq] at b_
          subst b_
          clear hr23_
          have hll23_ := Le.refl L19_
          have hhh23_ := Le.refl H19_
          refine W_seq_k fun K24 k24 => ?_
          refine W_region [32, 33] rfl (Ops_step (R_move rfl) rfl rfl (Ops_step (R_eql rfl rfl) rfl rfl ?_))
          refine Ops_nil ?_
          refine then_n (k24 _ _ ?_)
          clear k24 K24
          refine W_if rfl (fun hc25_ => ?_) (fun hc25_ => ?_)
          ·
           replace h := h.1 hc25_
           refine W_region [5] rfl (Ops_step (R_assign rfl) rfl rfl ?_)
           refine Ops_nil ?_
           refine then_n ?_
           exact ⟨_, rfl, ⟨(160 : UInt8), _, _, rfl, h, hI, hll23_, hhh23_, trivial⟩, ⟨rfl, rfl, rfl, rfl, rfl, trivial⟩⟩
          ·
           replace h := h.2 hc25_
           refine W_skip ?_
           refine then_n ?_
           exact ⟨_, rfl, ⟨(128 : UInt8), _, _, rfl, h, hI, hll23_, hhh23_, trivial⟩, ⟨rfl, rfl, rfl, rfl, rfl, trivial⟩⟩
         ·
          simp only [e_, Nat.reduceAdd, Nat.reduceBEq] at b_
          subst b_
          clear h
          rintro _ w23_ ⟨x5_23, L23_, H23_, rfl, hJ23_, hI23_, hll23_, hhh23_, -⟩
          replace hI := hI23_
          clear hI23_
          have h := hr23_ x5_23 hJ23_
          clear hr23_ hJ23_
          replace hll3_ := hll3_.trans hll23_
          replace hhh3_ := hhh3_.trans hhh23_
          replace hs0_4 := hs0_4.up hhh23_
          replace hll4_ := hll4_.trans hll23_
          replace hhh4_ := hhh4_.trans hhh23_
          replace hll10_ := hll10_.trans hll23_
          replace hhh10_ := hhh10_.trans hhh23_
          refine W_seq_k fun K26 k26 => ?_
          refine W_region [34, 35] rfl (Ops_step (R_move rfl) rfl rfl (Ops_step (R_eql rfl rfl) rfl rfl ?_))
          refine Ops_nil ?_
          refine then_n (k26 _ _ ?_)
          clear k26 K26
          refine W_if rfl (fun hc27_ => ?_) (fun hc27_ => ?_)
          ·
           replace h := h.1 hc27_
           refine W_region [6] rfl (Ops_step (R_assign rfl) rfl rfl ?_)
           refine Ops_nil ?_
           refine block_n ?_
           refine then_n ?_
           exact ⟨_, rfl, ⟨3, x5_23, (159 : UInt8), _, _, rfl, h, hI, hll10_, hhh10_, trivial⟩, ⟨rfl, rfl, trivial⟩⟩
          ·
           replace h := h.2 hc27_
           refine W_skip ?_
           refine block_n ?_
           refine then_n ?_
           exact ⟨_, rfl, ⟨3, x5_23, (191 : UInt8), _, _, rfl, h, hI, hll10_, hhh10_, trivial⟩, ⟨rfl, rfl, trivial⟩⟩
        ·
         replace h := h.2 hc21_
         refine ex_ h fun J28_ hr28_ h => ?_
         refine W_seq_join [0, 3, 4, 5, 6, 7] [36] (fun vals_ w2 => ∃ (x36_28 : Bool) (L H : Gh), vals_ = [.bool x36_28] ∧ J28_ x36_28 ∧ Inv [] G w L H w2 ∧ Le L19_ L ∧ Le H19_ H ∧ True) (fun B_ b_ => ?_) (fun B_ b_ => ?_)
         ·
          simp only [e_, Nat.reduceAdd, Nat.reduceBEq] at b_
          subst b_
          clear hr28_
          have hll28_ := Le.refl L19_
          have hhh28_ := Le.refl H19_
          refine W_region [37, 38, 39, 40, 41, 42, 36] rfl (Ops_step (R_move rfl) rfl rfl (Ops_step (R_geq rfl rfl) rfl rfl (Ops_step (R_move rfl) rfl rfl ?_)))
          refine Ops_split 39 rfl (fun hg29_ => ?_) (fun hg29_ => ?_)
          ·
           replace h := h.1 hg29_
           refine Ops_step (R_move rfl) rfl rfl (Ops_step (R_leq rfl rfl) rfl rfl (Ops_step (R_pick_true rfl rfl) rfl rfl (Ops_step (R_assign rfl) rfl rfl ?_)))
           refine Ops_nil ?_
           refine then_n ?_
           exact ⟨_, rfl, ⟨(decide ((x12_.toNat : Int) ≤ 244)), _, _, rfl, h, hI, hll28_, hhh28_, trivial⟩, ⟨rfl, rfl, rfl, rfl, rfl, rfl, trivial⟩⟩
          ·
           replace h := h.2 hg29_
           refine Ops_pass rfl rfl (Ops_pass rfl rfl (Ops_step (R_pick_false rfl rfl) rfl rfl (Ops_step (R_assign rfl) rfl rfl ?_)))
           refine Ops_nil ?_
           refine then_n ?_
           exact ⟨_, rfl, ⟨false, _, _, rfl, h, hI, hll28_, hhh28_, trivial⟩, ⟨rfl, rfl, rfl, rfl, rfl, rfl, trivial⟩⟩
         ·
          simp only [e_, Nat.reduceAdd, Nat.reduceBEq] at b_
          subst b_
          clear h
          rintro _ w28_ ⟨x36_28, L28_, H28_, rfl, hJ28_, hI28_, hll28_, hhh28_, -⟩
          replace hI := hI28_
          clear hI28_
          have h := hr28_ x36_28 hJ28_
          clear hr28_ hJ28_
          replace hll3_ := hll3_.trans hll28_
          replace hhh3_ := hhh3_.trans hhh28_
          replace hs0_4 := hs0_4.up hhh28_
          replace hll4_ := hll4_.trans hll28_
          replace hhh4_ := hhh4_.trans hhh28_
          replace hll10_ := hll10_.trans hll28_
          replace hhh10_ := hhh10_.trans hhh28_
          refine W_cond rfl (fun hc30_ => ?_) (fun hc30_ => ?_)
          ·
           replace h := h.1 hc30_
           refine W_seq_k fun K31 k31 => ?_
           refine W_region [4] rfl (Ops_step (R_assign rfl) rfl rfl ?_)
           refine Ops_nil ?_
           refine then_n (k31 _ _ ?_)
           clear k31 K31
           refine ex_ h fun J32_ hr32_ h => ?_
           refine W_seq_join [0, 3, 4, 6, 7] [5] (fun vals_ w2 => ∃ (x5_32 : UInt8) (L H : Gh), vals_ = [vb x5_32] ∧ J32_ x5_32 ∧ Inv [] G w L H w2 ∧ Le L28_ L ∧ Le H28_ H ∧ True) (fun B_ b_ => ?_) (fun B_ b_ => ?_)
           ·
            simp only [e_, Nat.reduceAdd, Nat.reduceBEq] at b_
            subst b_
            clear hr32_
            have hll32_ := Le.refl L28_
            have hhh32_ := Le.refl H28_
            refine W_seq_k fun K33 k33 => ?_
            refine W_region [43, 44] rfl (Ops_step (R_move rfl) rfl rfl (Ops_step (R_eql rfl rfl) rfl rfl ?_))
            refine Ops_nil ?_
            refine then_n (k33 _ _ ?_)
            clear k33 K33
            refine W_if rfl (fun hc34_ => ?_) (fun hc34_ => ?_)
            ·
             replace h := h.1 hc34_
             refine W_region [5] rfl (Ops_step (R_assign rfl) rfl rfl ?_)
             refine Ops_nil ?_
             refine then_n ?_
             exact ⟨_, rfl, ⟨(144 : UInt8), _, _, rfl, h, hI, hll32_, hhh32_, trivial⟩, ⟨rfl, rfl, rfl, rfl, rfl, trivial⟩⟩
            ·
             replace h := h.2 hc34_
             refine W_skip ?_
             refine then_n ?_
             exact ⟨_, rfl, ⟨(128 : UInt8), _, _, rfl, h, hI, hll32_, hhh32_, trivial⟩, ⟨rfl, rfl, rfl, rfl, rfl, trivial⟩⟩
           ·
            simp only [e_, Nat.reduceAdd, Nat.reduceBEq] at b_
            subst b_
            clear h
            rintro _ w32_ ⟨x5_32, L32_, H32_, rfl, hJ32_, hI32_, hll32_, hhh32_, -⟩
            replace hI := hI32_
            clear hI32_
            have h := hr32_ x5_32 hJ32_
            clear hr32_ hJ32_
            replace hll3_ := hll3_.trans hll32_
            replace hhh3_ := hhh3_.trans hhh32_
            replace hs0_4 := hs0_4.up hhh32_
            replace hll4_ := hll4_.trans hll32_
            replace hhh4_ := hhh4_.trans hhh32_
            replace hll10_ := hll10_.trans hll32_
            replace hhh10_ := hhh10_.trans hhh32_
            refine W_seq_k fun K35 k35 => ?_
            refine W_region [45, 46] rfl (Ops_step (R_move rfl) rfl rfl (Ops_step (R_eql rfl rfl) rfl rfl ?_))
            refine Ops_nil ?_
            refine then_n (k35 _ _ ?_)
            clear k35 K35
            refine W_if rfl (fun hc36_ => ?_) (fun hc36_ => ?_)
            ·
             replace h := h.1 hc36_
             refine W_region [6] rfl (Ops_step (R_assign rfl) rfl rfl ?_)
             refine Ops_nil ?_
             refine block_n ?_
             refine then_n ?_
             exact ⟨_, rfl, ⟨4, x5_32, (143 : UInt8), _, _, rfl, h, hI, hll10_, hhh10_, trivial⟩, ⟨rfl, rfl, trivial⟩⟩
            ·
             replace h := h.2 hc36_
             refine W_skip ?_
             refine block_n ?_
             refine then_n ?_
             exact ⟨_, rfl, ⟨4, x5_32, (191 : UInt8), _, _, rfl, h, hI, hll10_, hhh10_, trivial⟩, ⟨rfl, rfl, trivial⟩⟩
          ·
           replace h := h.2 hc30_
           refine W_skip ?_
           refine block_n ?_
           refine then_n ?_
           exact ⟨_, rfl, ⟨0, (128 : UInt8), (191 : UInt8), _, _, rfl, h, hI, hll10_, hhh10_, trivial⟩, ⟨rfl, rfl, trivial⟩⟩
   ·
    simp only [e_, Nat.reduceAdd, Nat.reduceBEq] at b_
    subst b_
    clear h
    rintro _ w10_ ⟨x4_10, x5_10, x6_10, L10_, H10_, rfl, hJ10_, hI10_, hll10_, hhh10_, -⟩
    replace hI := hI10_
    clear hI10_
    have h := hr10_ x4_10 x5_10 x6_10 hJ10_
    clear hr10_ hJ10_
    replace hll3_ := hll3_.trans hll10_
    replace hhh3_ := hhh3_.trans hhh10_
    replace hs0_4 := hs0_4.up hhh10_
    replace hll4_ := hll4_.trans hll10_
    replace hhh4_ := hhh4_.trans hhh10_
    refine W_seq_k fun K37 k37 => ?_
    refine ex_ h fun J38_ hr38_ h => ?_
    refine W_seq_join [0, 3, 4, 5, 6] [54] (fun vals_ w2 => ∃ (x54_38 : Bool) (L H : Gh), vals_ = [.bool x54_38] ∧ J38_ x54_38 ∧ Inv [] G w L H w2 ∧ Le L10_ L ∧ Le H10_ H ∧ True) (fun B_ b_ => ?_) (fun B_ b_ => ?_)
    ·
     simp only [e_, Nat.reduceAdd, Nat.reduceBEq] at b_
     subst b_
     clear hr38_
     have hll38_ := Le.refl L10_
     have hhh38_ := Le.refl H10_
     refine W_region [47, 48, 49, 50, 51, 52, 53, 54] rfl (Ops_step (R_move rfl) rfl rfl (Ops_step (R_eql rfl rfl) rfl rfl (Ops_step (R_move rfl) rfl rfl ?_)))
     refine Ops_split 49 rfl (fun hg39_ => ?_) (fun hg39_ => ?_)
     ·
      replace h := h.1 hg39_
      refine Ops_pass rfl rfl (Ops_pass rfl rfl (Ops_pass rfl rfl (Ops_pass rfl rfl (Ops_step (R_pick_true rfl rfl) rfl rfl ?_))))
      refine Ops_nil ?_
      refine then_n ?_
      exact ⟨_, rfl, ⟨true, _, _, rfl, h, hI, hll38_, hhh38_, trivial⟩, ⟨rfl, rfl, rfl, rfl, rfl, trivial⟩⟩
     ·
      replace h := h.2 hg39_
      refine Ops_step (R_move rfl) rfl rfl (Ops_step (R_len Tryd.underlying30 rfl rfl) rfl rfl (Ops_step (R_move rfl) rfl rfl (Ops_step (R_lss rfl rfl) rfl rfl (Ops_step (R_pick_false rfl rfl) rfl rfl ?_))))
      refine Ops_nil ?_
      refine then_n ?_
      exact ⟨_, rfl, ⟨(decide ((x0_4.length : Int) < x4_10)), _, _, rfl, h, hI, hll38_, hhh38_, trivial⟩, ⟨rfl, rfl, rfl, rfl, rfl, trivial⟩⟩
    ·
     simp only [e_, Nat.reduceAdd, Nat.reduceBEq] at b_
     subst b_
     clear h
     rintro _ w38_ ⟨x54_38, L38_, H38_, rfl, hJ38_, hI38_, hll38_, hhh38_, -⟩
     replace hI := hI38_
     clear hI38_
     have h := hr38_ x54_38 hJ38_
     clear hr38_ hJ38_
     replace hll3_ := hll3_.trans hll38_
     replace hhh3_ := hhh3_.trans hhh38_
     replace hs0_4 := hs0_4.up hhh38_
     replace hll4_ := hll4_.trans hll38_
     replace hhh4_ := hhh4_.trans hhh38_
     refine W_cond rfl (fun hc40_ => ?_) (fun hc40_ => ?_)
     ·
      replace h := h.1 hc40_
      refine W_seq_k fun K41 k41 => ?_
      refine W_region [2] rfl (Ops_step (R_assign rfl) rfl rfl ?_)
      refine Ops_nil ?_
      refine then_n (k41 _ _ ?_)
      clear k41 K41
      refine W_keepB [2] fun B_ b_ => ?_
      simp only [e_, Nat.reduceAdd, Nat.reduceBEq] at b_
      subst b_
      refine W_ret ?_
      refine then_ret ?_
      clear k37 K37
      refine block_ret ?_
      refine then_ret ?_
      refine block_ret ?_
      refine then_ret ?_
      refine ⟨_, ⟨_, _, rfl, rfl, rfl⟩, ?_⟩
      exact ⟨(-1), _, _, rfl, hI, h⟩
     ·
      replace h := h.2 hc40_
      refine W_skip ?_
      refine then_n (k37 _ _ ?_)
      clear k37 K37
      refine ex_ h fun J43_ hr43_ h => ?_
      refine W_seq_join [0, 3, 4] [] (fun vals_ w2 => ∃  (L H : Gh), vals_ = [] ∧ J43_ ∧ Inv [] G w L H w2 ∧ Le L38_ L ∧ Le H38_ H ∧ True) (fun B_ b_ => ?_) (fun B_ b_ => ?_)
      ·
       simp only [e_, Nat.reduceAdd, Nat.reduceBEq] at b_
       subst b_
       clear hr43_
       have hll43_ := Le.refl L38_
       have hhh43_ := Le.refl H38_
       refine W_seq_k fun K44 k44 => ?_
       refine W_region [8] rfl (Ops_step (R_assign rfl) rfl rfl ?_)
       refine Ops_nil ?_
       refine then_n (k44 _ _ ?_)
       clear k44 K44
       refine W_block ?_
       refine Exists.elim h fun I45_ h => Exists.elim h fun n45_ h => ?_
       have h0_ := h.1
       have hs45_ := h.2
       clear h
       refine W_loopB [0, 3, 4] [5, 6, 8] (fun m vals_ w2 => ∃ (x5_45 : UInt8) (x6_45 : UInt8) (x8_45 : Int) (L H : Gh), vals_ = [vb x5_45, vb x6_45, vi x8_45] ∧ I45_ m x5_45 x6_45 x8_45 ∧ Inv [] G w L H w2 ∧ Le L38_ L ∧ Le H38_ H ∧ True) n45_ _ rfl ⟨x5_10, x6_10, 1, _, _, rfl, h0_, hI, Le.refl _, Le.refl _, trivial⟩ fun B_ b_ => ?_
       clear h0_
       simp only [e_, Nat.reduceAdd, Nat.reduceBEq] at b_
       subst b_
       rintro m45_ _ w45_ ⟨x5_45, x6_45, x8_45, L45_, H45_, rfl, hJ45_, hI45_, hll45_, hhh45_, -⟩
       replace hI := hI45_
       clear hI45_
       have h := hs45_ m45_ x5_45 x6_45 x8_45 hJ45_
       clear hs45_ hJ45_
       replace hll3_ := hll3_.trans hll45_
       replace hhh3_ := hhh3_.trans hhh45_
       replace hs0_4 := hs0_4.up hhh45_
       replace hll4_ := hll4_.trans hll45_
       replace hhh4_ := hhh4_.trans hhh45_
       replace hll43_ := hll43_.trans hll45_
       replace hhh43_ := hhh43_.trans hhh45_
       refine W_seq_k fun K46 k46 => ?_
       refine W_seq_k fun K47 k47 => ?_
       refine W_region [55, 56, 57] rfl (Ops_step (R_move rfl) rfl rfl (Ops_step (R_move rfl) rfl rfl (Ops_step (R_lss rfl rfl) rfl rfl ?_)))
       refine Ops_nil ?_
       refine then_n (k47 _ _ ?_)
       clear k47 K47
       refine W_if rfl (fun hc48_ => ?_) (fun hc48_ => ?_)
       ·
        replace h := h.1 hc48_
        refine W_skip ?_
        refine then_n (k46 _ _ ?_)
        clear k46 K46
        refine W_seq_k fun K49 k49 => ?_
        refine W_block ?_
        refine W_seq_k fun K50 k50 => ?_
        refine ex_ h fun J51_ hr51_ h => ?_
        refine W_seq_join [0, 3, 4, 8] [73] (fun vals_ w2 => ∃ (x73_51 : Bool) (L H : Gh), vals_ = [.bool x73_51] ∧ J51_ x73_51 ∧ Inv [] G w L H w2 ∧ Le L45_ L ∧ Le H45_ H ∧ True) (fun B_ b_ => ?_) (fun B_ b_ => ?_)
        ·
         simp only [e_, Nat.reduceAdd, Nat.reduceBEq] at b_
         subst b_
         clear hr51_
         have hll51_ := Le.refl L45_
         have hhh51_ := Le.refl H45_
         refine W_region [60, 61, 62, 63, 64, 65, 66, 67, 68, 69, 70, 71, 72, 73] rfl (Ops_step (R_move rfl) rfl rfl (Ops_step (R_move rfl) rfl rfl ?_))
         refine ex_ h fun x52_ hx52_ h => ?_
         have ha52_ := (hs0_4.atS hx52_).1
         have hg52_ := (hs0_4.atS hx52_).2
         refine Ops_step (R_indexSl Tryd.underlying30 sz5 rfl rfl hx52_.1 hx52_.lt ha52_) rfl rfl (Ops_step (R_load ag5 rfl (hI.st _ _ hg52_)) rfl rfl (Ops_step (R_move rfl) rfl rfl (Ops_step (R_lss rfl rfl) rfl rfl (Ops_step (R_move rfl) rfl rfl ?_))))
         refine Ops_split 66 rfl (fun hg53_ => ?_) (fun hg53_ => ?_)
         ·
          replace h := h.1 hg53_
          refine Ops_pass rfl rfl (Ops_pass rfl rfl (Ops_pass rfl rfl (Ops_pass rfl rfl (Ops_pass rfl rfl ?_))))
          refine Ops_pass rfl rfl (Ops_step (R_pick_true rfl rfl) rfl rfl ?_)
          refine Ops_nil ?_
          refine then_n ?_
          exact ⟨_, rfl, ⟨true, _, _, rfl, h, hI, hll51_, hhh51_, trivial⟩, ⟨rfl, rfl, rfl, rfl, trivial⟩⟩
         ·
          replace h := h.2 hg53_
          refine Ops_step (R_move rfl) rfl rfl (Ops_step (R_move rfl) rfl rfl ?_)
          refine ex_ h fun x54_ hx54_ h => ?_
          have ha54_ := (hs0_4.atS hx54_).1
          have hg54_ := (hs0_4.atS hx54_).2
          refine Ops_step (R_indexSl Tryd.underlying30 sz5 rfl rfl hx54_.1 hx54_.lt ha54_) rfl rfl (Ops_step (R_load ag5 rfl (hI.st _ _ hg54_)) rfl rfl (Ops_step (R_move rfl) rfl rfl (Ops_step (R_gtr rfl rfl) rfl rfl (Ops_step (R_pick_false rfl rfl) rfl rfl ?_))))
          refine Ops_nil ?_
          refine then_n ?_
          exact ⟨_, rfl, ⟨(decide ((x54_.toNat : Int) > (x6_45.toNat : Int))), _, _, rfl, h, hI, hll51_, hhh51_, trivial⟩, ⟨rfl, rfl, rfl, rfl, trivial⟩⟩
        ·
         simp only [e_, Nat.reduceAdd, Nat.reduceBEq] at b_
         subst b_
         clear h
         rintro _ w51_ ⟨x73_51, L51_, H51_, rfl, hJ51_, hI51_, hll51_, hhh51_, -⟩
         replace hI := hI51_
         clear hI51_
         have h := hr51_ x73_51 hJ51_
         clear hr51_ hJ51_
         replace hll3_ := hll3_.trans hll51_
         replace hhh3_ := hhh3_.trans hhh51_
         replace hs0_4 := hs0_4.up hhh51_
         replace hll4_ := hll4_.trans hll51_
         replace hhh4_ := hhh4_.trans hhh51_
         replace hll43_ := hll43_.trans hll51_
         replace hhh43_ := hhh43_.trans hhh51_
         replace hll45_ := hll45_.trans hll51_
         replace hhh45_ := hhh45_.trans hhh51_
         refine W_cond rfl (fun hc55_ => ?_) (fun hc55_ => ?_)
         ·
          replace h := h.1 hc55_
          refine W_seq_k fun K56 k56 => ?_
          refine W_region [2] rfl (Ops_step (R_assign rfl) rfl rfl ?_)
          refine Ops_nil ?_
          refine then_n (k56 _ _ ?_)
          clear k56 K56
          refine W_ret ?_
          refine then_ret ?_
          clear k50 K50
          refine block_ret ?_
          refine then_ret ?_
          clear k49 K49
          refine then_ret ?_
          refine block_ret ?_
          refine then_ret ?_
          refine block_ret ?_
          refine then_ret ?_
          refine block_ret ?_
          refine then_ret ?_
          refine ⟨_, ⟨_, _, rfl, rfl, rfl⟩, ?_⟩
          exact ⟨(-1), _, _, rfl, hI, h⟩
         ·
          replace h := h.2 hc55_
          refine W_skip ?_
          refine then_n (k50 _ _ ?_)
          clear k50 K50
          refine W_seq_k fun K57 k57 => ?_
          refine W_region [5] rfl (Ops_step (R_assign rfl) rfl rfl ?_)
          refine Ops_nil ?_
          refine then_n (k57 _ _ ?_)
          clear k57 K57
          refine W_region [6] rfl (Ops_step (R_assign rfl) rfl rfl ?_)
          refine Ops_nil ?_
          refine block_n ?_
          refine then_n (k49 _ _ ?_)
          clear k49 K49
          refine W_region [58, 59, 8] rfl (Ops_step (R_move rfl) rfl rfl ?_)
          have hk58_ := h.1
          replace h := h.2
          refine Ops_step (R_add rfl rfl (wI hk58_.1 hk58_.2)) rfl rfl (Ops_step (R_assign rfl) rfl rfl ?_)
          refine Ops_nil ?_
          refine then_n ?_
          exact h.elim fun m_ h => ⟨m_, _, h.1, rfl, ⟨(128 : UInt8), (191 : UInt8), (x8_45 + 1), _, _, rfl, h.2, hI, hll45_, hhh45_, trivial⟩, ⟨rfl, rfl, rfl, trivial⟩⟩
       ·
        replace h := h.2 hc48_
        refine W_exit ?_
        refine then_exit ?_
        clear k46 K46
        refine then_exit ?_
        refine block_exit ?_
        refine then_n ?_
        exact ⟨_, rfl, ⟨_, _, rfl, h, hI, hll43_, hhh43_, trivial⟩, ⟨rfl, rfl, rfl, trivial⟩⟩
      ·
       simp only [e_, Nat.reduceAdd, Nat.reduceBEq] at b_
       subst b_
       clear h
       rintro _ w43_ ⟨L43_, H43_, rfl, hJ43_, hI43_, hll43_, hhh43_, -⟩
       replace hI := hI43_
       clear hI43_
       have h := hr43_ hJ43_
       clear hr43_ hJ43_
       replace hll3_ := hll3_.trans hll43_
       replace hhh3_ := hhh3_.trans hhh43_
       replace hs0_4 := hs0_4.up hhh43_
       replace hll4_ := hll4_.trans hll43_
       replace hhh4_ := hhh4_.trans hhh43_
       refine W_seq_k fun K59 k59 => ?_
       refine W_region [74, 75, 76, 0] rfl (Ops_step (R_move rfl) rfl rfl (Ops_step (R_move rfl) rfl rfl ?_))
       have hk61_ := h.1
       replace h := h.2
       have hk62_ := h.1
       replace h := h.2
       refine Exists.elim (cut_ex (n := 1) (l := x4_10) (h := (x0_4.length : Int)) hs0_4 rfl (by decide) hc0_4 hk61_ hk62_ (Int.le_refl _)) fun A60_ h60_ => Exists.elim h60_ fun c60_ h60_ => ?_
       have hr60_ := h60_.1
       have hc60_ := h60_.2.1
       have hs60_ := h60_.2.2
       clear h60_
       refine Ops_step (X_slice (xs := x0_4) Tryd.underlying30 sz5 rfl hr60_ hc0_4 rfl rfl hk61_ hk62_ (Int.le_refl _)) rfl rfl ?_
       clear hr60_
       refine Ops_step (R_assign rfl) rfl rfl ?_
       refine Ops_nil ?_
       refine then_n (k59 _ _ ?_)
       clear k59 K59
       refine W_region [77, 78, 3] rfl (Ops_step (R_move rfl) rfl rfl ?_)
       have hk63_ := h.1
       replace h := h.2
       refine Ops_step (R_add rfl rfl (wI hk63_.1 hk63_.2)) rfl rfl (Ops_step (R_assign rfl) rfl rfl ?_)
       refine Ops_nil ?_
       refine block_n ?_
       refine then_n ?_
       exact h.elim fun m_ h => ⟨m_, _, h.1, rfl, ⟨(cut x0_4 x4_10 (x0_4.length : Int)), A60_, c60_, (x3_4 + 1), _, _, rfl, h.2, hI, hll4_, hhh4_, hc60_, hs60_, trivial⟩, trivial⟩
  ·
   replace h := h.2 hc7_
   refine W_exit ?_
   refine then_exit ?_
   clear k5 K5
   refine then_exit ?_
   refine block_exit ?_
   refine then_n ?_
   exact ⟨_, rfl, ⟨x3_4, _, _, rfl, h, hI, hll3_, hhh3_, trivial⟩, trivial⟩
 ·
  simp only [e_, Nat.reduceAdd, Nat.reduceBEq] at b_
  subst b_
  clear h
  rintro _ w3_ ⟨x3_3, L3_, H3_, rfl, hJ3_, hI3_, hll3_, hhh3_, -⟩
  replace hI := hI3_
  clear hI3_
  have h := hr3_ x3_3 hJ3_
  clear hr3_ hJ3_
  refine W_seq_k fun K64 k64 => ?_
  refine W_region [79, 2] rfl (Ops_step (R_move rfl) rfl rfl (Ops_step (R_assign rfl) rfl rfl ?_))
  refine Ops_nil ?_
  refine then_n (k64 _ _ ?_)
  clear k64 K64
  refine W_ret ?_
  refine ⟨_, ⟨_, _, rfl, rfl, rfl⟩, ?_⟩
  exact ⟨x3_3, _, _, rfl, hI, h⟩

theorem sealskinref02_Reader_Text_ok {G : Gh} {w : World} (hS : St G w) (hg : GL G) {d0 tb0 : Nat} {x0 : sealskinref02_Reader} (hr0 : Ob tb0 G G w d0 x0) {x1 : Int} {Q : Str → sealskinref02_Reader → Prop} (h : sealskinref02_Reader_Text x0 x1 Q) : Calls Tryd.prog 66 #[.pointer (some ⟨d0, 0, none⟩), vi x1] w fun e w2 => ∃ (r0 : Str) (y0 : sealskinref02_Reader) (L H : Gh), e = .returned (vs r0) ∧ Inv [d0] G w L H w2 ∧ Ob tb0 H H w2 d0 y0 ∧ Q r0 y0 := by
 unfold sealskinref02_Reader_Text at h
 have hI := Inv.start (M := [d0]) hS
 refine calls_W 53 Tryd.func66 rfl Tryd.ntmps66 rfl [.tmp 4] rfl ?_
 obtain ⟨l0_, hl0_, ht0⟩ := hr0
 obtain ⟨A0_1, c0_1, rfl, ⟨hc0_1, hs0_1⟩⟩ := hl0_
 have hlt_d0 := ht0.blk.lt
 refine W_seq_k fun K1 k1 => ?_
 refine W_region [4] rfl (Ops_step (R_assign rfl) rfl rfl ?_)
 refine Ops_nil ?_
 refine then_n (k1 _ _ ?_)
 clear k1 K1
 refine W_seq_k fun K2 k2 => ?_
 refine W_seq_k fun K3 k3 => ?_
 refine W_region [8, 9, 10, 11, 12] rfl (Ops_step (R_move rfl) rfl rfl (Ops_step (R_nilCheck rfl) rfl rfl (Ops_step (R_fieldAddr fo69_2 rfl) rfl rfl ?_)))
 refine Ops_step (R_loadB (v := vi x0.E_) ag22 rfl ht0.blk rfl) rfl rfl ?_
 refine Ops_step (R_neq rfl rfl) rfl rfl ?_
 refine Ops_nil ?_
 refine then_n (k3 _ _ ?_)
 clear k3 K3
 refine W_if rfl (fun hc4_ => ?_) (fun hc4_ => ?_)
 ·
  replace h := h.1 hc4_
  refine W_seq_k fun K5 k5 => ?_
  refine W_region [4] rfl (Ops_step (R_assign rfl) rfl rfl ?_)
  refine Ops_nil ?_
  refine then_n (k5 _ _ ?_)
  clear k5 K5
  refine W_keepB [4] fun B_ b_ => ?_
  simp only [e_, Nat.reduceAdd, Nat.reduceBEq] at b_
  subst b_
  refine W_ret ?_
  refine then_ret ?_
  clear k2 K2
  refine ⟨_, ⟨_, _, rfl, rfl, rfl⟩, ?_⟩
  exact ⟨(Str.mk []), x0, _, _, rfl, hI, ⟨_, ⟨A0_1, c0_1, rfl, ⟨hc0_1, hs0_1⟩⟩, ht0⟩, h⟩
 ·
  replace h := h.2 hc4_
  refine W_skip ?_
  refine then_n (k2 _ _ ?_)
  clear k2 K2
  refine W_keepB [0, 1] fun B_ b_ => ?_
  simp only [e_, Nat.reduceAdd, Nat.reduceBEq] at b_
  subst b_
  refine W_seq_k fun K8 k8 => ?_
  refine W_region [13, 14, 15, 16, 5] rfl (Ops_step (R_move rfl) rfl rfl (Ops_step (R_nilCheck rfl) rfl rfl (Ops_step (R_fieldAddr fo69_1 rfl) rfl rfl ?_)))
  refine Ops_step (R_loadB (v := vi x0.At_) ag3 rfl ht0.blk rfl) rfl rfl ?_
  refine Ops_step (R_assign rfl) rfl rfl ?_
  refine Ops_nil ?_
  refine then_n (k8 _ _ ?_)
  clear k8 K8
  refine W_seq_k fun K9 k9 => ?_
  refine W_region [17, 18, 1] rfl (Ops_step (R_move rfl) rfl rfl (Ops_step (R_max rfl rfl _root_.rfl) rfl rfl (Ops_step (R_assign rfl) rfl rfl ?_)))
  refine Ops_nil ?_
  refine then_n (k9 _ _ ?_)
  clear k9 K9
  refine W_keepB [0, 1, 5] fun B_ b_ => ?_
  simp only [e_, Nat.reduceAdd, Nat.reduceBEq] at b_
  subst b_
  refine W_seq_k fun K11 k11 => ?_
  refine W_region [19, 20, 21, 22, 23, 6] rfl (Ops_step (R_move rfl) rfl rfl (Ops_step (R_move rfl) rfl rfl (Ops_step (R_min rfl rfl _root_.rfl) rfl rfl ?_)))
  have hk12_ := h.1
  replace h := h.2
  refine Ops_step (R_mul rfl rfl (wI hk12_.1 hk12_.2)) rfl rfl ?_
  refine Ops_call (C_func bd86 rfl) rfl rfl ?_
  refine (sealskinref02_Reader_Bytes_ok (x0 := x0) (x1 := (4 * (min (max 0 x1) 16384))) hI.st (hg.up hI.le) ⟨_, ⟨A0_1, c0_1, rfl, ⟨hc0_1, hs0_1⟩⟩, ht0⟩ h).mono ?_
  rintro _ w13_ ⟨A13_0, c13_0, r13_0, y13_0, L13_, H13_, rfl, hI13_, ho13_0, hq13_0, h⟩
  refine Exists.elim (hI.call hI13_ (mem1 (by simp))) fun L130_ h13_ => ?_
  have hz13_ := hI.size
  replace hI := h13_.1
  have u13_ := h13_.2.1
  have hl13_ := h13_.2.2
  clear h13_
  replace hs0_1 := hs0_1.up u13_.hh
  replace ho13_0 := OwnS.backS ho13_0 hz13_ (Le.refl _)
  clear ht0
  obtain ⟨l13_0_, hl13_0_, ht13_0⟩ := hq13_0
  obtain ⟨A13_0_1, c13_0_1, rfl, ⟨hc13_0_1, hs13_0_1⟩⟩ := hl13_0_
  clear hI13_ u13_ hl13_
  refine ⟨_, rfl, ?_⟩
  refine Exists.elim (ho13_0.freeze hI) fun L14_ h14_ => Exists.elim h14_ fun H14_ h14_ => ?_
  replace hI := h14_.1
  have u14_ := h14_.2.1
  have hs14_ := h14_.2.2.1 (Le.no _)
  have hc14_ := ho13_0.cap
  replace hs13_0_1 := hs13_0_1.up u14_.hh
  replace ht13_0 := ht13_0.up u14_ (ho13_0.old hlt_d0)
  clear h14_ u14_ ho13_0
  refine Ops_step (R_assign rfl) rfl rfl ?_
  refine Ops_nil ?_
  refine then_n (k11 _ _ ?_)
  clear k11 K11
  refine W_seq_k fun K15 k15 => ?_
  refine W_seq_k fun K16 k16 => ?_
  refine W_region [24, 25, 26, 27, 28] rfl (Ops_step (R_move rfl) rfl rfl (Ops_step (R_nilCheck rfl) rfl rfl (Ops_step (R_fieldAddr fo69_2 rfl) rfl rfl ?_)))
  refine Ops_step (R_loadB (v := vi y13_0.E_) ag22 rfl ht13_0.blk rfl) rfl rfl ?_
  refine Ops_step (R_neq rfl rfl) rfl rfl ?_
  refine Ops_nil ?_
  refine then_n (k16 _ _ ?_)
  clear k16 K16
  refine W_keepB [0, 1, 5, 6, 28] fun B_ b_ => ?_
  simp only [e_, Nat.reduceAdd, Nat.reduceBEq] at b_
  subst b_
  refine W_if rfl (fun hc18_ => ?_) (fun hc18_ => ?_)
  ·
   replace h := h.1 hc18_
   refine W_seq_k fun K19 k19 => ?_
   refine W_region [4] rfl (Ops_step (R_assign rfl) rfl rfl ?_)
   refine Ops_nil ?_
   refine then_n (k19 _ _ ?_)
   clear k19 K19
   refine W_ret ?_
   refine then_ret ?_
   clear k15 K15
   refine ⟨_, ⟨_, _, rfl, rfl, rfl⟩, ?_⟩
   exact ⟨(Str.mk []), y13_0, _, _, rfl, hI, ⟨_, ⟨A13_0_1, c13_0_1, rfl, ⟨hc13_0_1, hs13_0_1⟩⟩, ht13_0⟩, h⟩
  ·
   replace h := h.2 hc18_
   refine W_skip ?_
   refine then_n (k15 _ _ ?_)
   clear k15 K15
   refine W_seq_k fun K20 k20 => ?_
   refine W_region [29, 30, 7] rfl (Ops_step (R_move rfl) rfl rfl ?_)
   refine Ops_call (C_func bd87 rfl) rfl rfl ?_
   refine (sealskinref02_Runes_ok (x0 := r13_0) hI.st (hg.up hI.le) hc14_ (hs14_.up hI.sub) h).mono ?_
   rintro _ w21_ ⟨r21_0, L21_, H21_, rfl, hI21_, h⟩
   refine Exists.elim (hI.call hI21_ (by simp)) fun L210_ h21_ => ?_
   have hz21_ := hI.size
   replace hI := h21_.1
   have u21_ := h21_.2.1
   have hl21_ := h21_.2.2
   clear h21_
   replace hs13_0_1 := hs13_0_1.up u21_.hh
   replace ht13_0 := ht13_0.up u21_ (by simp)
   replace hs14_ := hs14_.up u21_.ll
   clear hI21_ u21_ hl21_
   refine ⟨_, rfl, ?_⟩
   refine Ops_step (R_assign rfl) rfl rfl ?_
   refine Ops_nil ?_
   refine then_n (k20 _ _ ?_)
   clear k20 K20
   refine ex_ h fun J22_ hr22_ h => ?_
   refine W_seq_join [0, 5, 6] [] (fun vals_ w2 => ∃ (yd0_22 : sealskinref02_Reader) (L H : Gh), vals_ = [] ∧ J22_ yd0_22 ∧ Inv [d0] G w L H w2 ∧ Le L210_ L ∧ Le H21_ H ∧ Ob tb0 H H w2 d0 yd0_22 ∧ True) (fun B_ b_ => ?_) (fun B_ b_ => ?_)
   ·
    simp only [e_, Nat.reduceAdd, Nat.reduceBEq] at b_
    subst b_
    clear hr22_
    have hll22_ := Le.refl L210_
    have hhh22_ := Le.refl H21_
    refine W_seq_k fun K23 k23 => ?_
    refine W_region [31, 32] rfl (Ops_step (R_move rfl) rfl rfl (Ops_step (R_lss rfl rfl) rfl rfl ?_))
    refine Ops_nil ?_
    refine then_n (k23 _ _ ?_)
    clear k23 K23
    refine W_if rfl (fun hc24_ => ?_) (fun hc24_ => ?_)
    ·
     replace h := h.1 hc24_
     refine W_region [33, 34, 35, none] rfl (Ops_step (R_move rfl) rfl rfl (Ops_step (R_nilCheck rfl) rfl rfl (Ops_step (R_fieldAddr fo69_2 rfl) rfl rfl ?_)))
     refine Ops_to0 (R_store sz22 rfl rfl ht13_0.blk (by show 2 < 3; decide) rfl) rfl ?_
     rintro _ w25_ ⟨hB25_, hF25_⟩
     replace hI := hI.tok hF25_ (out1 ht13_0.out) (mem1 (by simp))
     replace ht13_0 : Tok H21_ _ d0 tb0 ([.slice A13_0_1 y13_0.B_.length c13_0_1, vi y13_0.At_, vi 21]) := ⟨hB25_, ht13_0.out⟩
     clear hF25_ hB25_
     refine Ops_nil ?_
     refine then_n ?_
     exact ⟨_, rfl, ⟨(sealskinref02_Reader.mk y13_0.B_ y13_0.At_ 21), _, _, rfl, h, hI, hll22_, hhh22_, ⟨_, ⟨A13_0_1, c13_0_1, rfl, ⟨hc13_0_1, hs13_0_1⟩⟩, ht13_0⟩, trivial⟩, ⟨rfl, rfl, rfl, trivial⟩⟩
    ·
     replace h := h.2 hc24_
     refine W_seq_k fun K26 k26 => ?_
     refine W_region [36, 37, 38] rfl (Ops_step (R_move rfl) rfl rfl (Ops_step (R_move rfl) rfl rfl (Ops_step (R_gtr rfl rfl) rfl rfl ?_)))
     refine Ops_nil ?_
     refine then_n (k26 _ _ ?_)
     clear k26 K26
     refine W_keepB [0, 5, 6, 38] fun B_ b_ => ?_
     simp only [e_, Nat.reduceAdd, Nat.reduceBEq] at b_
     subst b_
     refine W_if rfl (fun hc28_ => ?_) (fun hc28_ => ?_)
     ·
      replace h := h.1 hc28_
      refine W_region [39, 40, 41, none] rfl (Ops_step (R_move rfl) rfl rfl (Ops_step (R_nilCheck rfl) rfl rfl (Ops_step (R_fieldAddr fo69_2 rfl) rfl rfl ?_)))
      refine Ops_to0 (R_store sz22 rfl rfl ht13_0.blk (by show 2 < 3; decide) rfl) rfl ?_
      rintro _ w29_ ⟨hB29_, hF29_⟩
      replace hI := hI.tok hF29_ (out1 ht13_0.out) (mem1 (by simp))
      replace ht13_0 : Tok H21_ _ d0 tb0 ([.slice A13_0_1 y13_0.B_.length c13_0_1, vi y13_0.At_, vi 4]) := ⟨hB29_, ht13_0.out⟩
      clear hF29_ hB29_
      refine Ops_nil ?_
      refine then_n ?_
      exact ⟨_, rfl, ⟨(sealskinref02_Reader.mk y13_0.B_ y13_0.At_ 4), _, _, rfl, h, hI, hll22_, hhh22_, ⟨_, ⟨A13_0_1, c13_0_1, rfl, ⟨hc13_0_1, hs13_0_1⟩⟩, ht13_0⟩, trivial⟩, ⟨rfl, rfl, rfl, trivial⟩⟩
     ·
      replace h := h.2 hc28_
      refine W_skip ?_
      refine then_n ?_
      exact ⟨_, rfl, ⟨y13_0, _, _, rfl, h, hI, hll22_, hhh22_, ⟨_, ⟨A13_0_1, c13_0_1, rfl, ⟨hc13_0_1, hs13_0_1⟩⟩, ht13_0⟩, trivial⟩, ⟨rfl, rfl, rfl, trivial⟩⟩
   ·
    simp only [e_, Nat.reduceAdd, Nat.reduceBEq] at b_
    subst b_
    clear h
    rintro _ w22_ ⟨yd0_22, L22_, H22_, rfl, hJ22_, hI22_, hll22_, hhh22_, hqd0_22, -⟩
    replace hI := hI22_
    clear hI22_
    have h := hr22_ yd0_22 hJ22_
    clear hr22_ hJ22_
    replace hs13_0_1 := hs13_0_1.up hhh22_
    replace hs14_ := hs14_.up hll22_
    obtain ⟨ld0_22_, hld0_22_, htd0_22⟩ := hqd0_22
    obtain ⟨Ad0_22_1, cd0_22_1, rfl, ⟨hcd0_22_1, hsd0_22_1⟩⟩ := hld0_22_
    refine W_seq_k fun K30 k30 => ?_
    refine W_seq_k fun K31 k31 => ?_
    refine W_region [42, 43, 44, 45, 46] rfl (Ops_step (R_move rfl) rfl rfl (Ops_step (R_nilCheck rfl) rfl rfl (Ops_step (R_fieldAddr fo69_2 rfl) rfl rfl ?_)))
    refine Ops_step (R_loadB (v := vi yd0_22.E_) ag22 rfl htd0_22.blk rfl) rfl rfl ?_
    refine Ops_step (R_neq rfl rfl) rfl rfl ?_
    refine Ops_nil ?_
    refine then_n (k31 _ _ ?_)
    clear k31 K31
    refine W_if rfl (fun hc32_ => ?_) (fun hc32_ => ?_)
    ·
     replace h := h.1 hc32_
     refine W_seq_k fun K33 k33 => ?_
     refine W_region [47, 48, 49, 50, none] rfl (Ops_step (R_move rfl) rfl rfl (Ops_step (R_move rfl) rfl rfl (Ops_step (R_nilCheck rfl) rfl rfl (Ops_step (R_fieldAddr fo69_1 rfl) rfl rfl ?_))))
     refine Ops_to0 (R_store sz3 rfl rfl htd0_22.blk (by show 1 < 3; decide) rfl) rfl ?_
     rintro _ w34_ ⟨hB34_, hF34_⟩
     replace hI := hI.tok hF34_ (out1 htd0_22.out) (mem1 (by simp))
     replace htd0_22 : Tok H22_ _ d0 tb0 ([.slice Ad0_22_1 yd0_22.B_.length cd0_22_1, vi x0.At_, vi yd0_22.E_]) := ⟨hB34_, htd0_22.out⟩
     clear hF34_ hB34_
     refine Ops_nil ?_
     refine then_n (k33 _ _ ?_)
     clear k33 K33
     refine W_keepB [] fun B_ b_ => ?_
     simp only [e_, Nat.reduceAdd, Nat.reduceBEq] at b_
     subst b_
     refine W_seq_k fun K36 k36 => ?_
     refine W_region [4] rfl (Ops_step (R_assign rfl) rfl rfl ?_)
     refine Ops_nil ?_
     refine then_n (k36 _ _ ?_)
     clear k36 K36
     refine W_ret ?_
     refine then_ret ?_
     clear k30 K30
     refine ⟨_, ⟨_, _, rfl, rfl, rfl⟩, ?_⟩
     exact ⟨(Str.mk []), (sealskinref02_Reader.mk yd0_22.B_ x0.At_ yd0_22.E_), _, _, rfl, hI, ⟨_, ⟨Ad0_22_1, cd0_22_1, rfl, ⟨hcd0_22_1, hsd0_22_1⟩⟩, htd0_22⟩, h⟩
    ·
     replace h := h.2 hc32_
     refine W_skip ?_
     refine then_n (k30 _ _ ?_)
     clear k30 K30
     refine W_keepB [6] fun B_ b_ => ?_
     simp only [e_, Nat.reduceAdd, Nat.reduceBEq] at b_
     subst b_
     refine W_seq_k fun K38 k38 => ?_
     refine W_region [51, 52, 4] rfl (Ops_step (R_move rfl) rfl rfl ?_)
     refine Ops_step (X_bytesStr (bs := r13_0) Tryd.underlying30 Tryd.underlying5 Tryd.underlying9 rfl rfl ((hs14_.up hI.sub).fz.rd hI.st)) rfl rfl ?_
     refine Ops_step (R_assign rfl) rfl rfl ?_
     refine Ops_nil ?_
     refine then_n (k38 _ _ ?_)
     clear k38 K38
     refine W_ret ?_
     refine ⟨_, ⟨_, _, rfl, rfl, rfl⟩, ?_⟩
     exact ⟨(Str.mk r13_0), yd0_22, _, _, rfl, hI, ⟨_, ⟨Ad0_22_1, cd0_22_1, rfl, ⟨hcd0_22_1, hsd0_22_1⟩⟩, htd0_22⟩, h⟩

end Go.Proofs.YtbjmngacjdcddaaDoor

