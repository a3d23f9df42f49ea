/- What is shown of the program on the way to the law. -/
import Derived.Test.YtbjmngacjdcddaaDoorZO2
import Derived.Test.YtbjmngacjdcddaaDoorZO7
import Derived.Test.YtbjmngacjdcddaaDoorProg
set_option linter.unusedVariables false
set_option linter.unusedSimpArgs false
set_option maxHeartbeats 4000000
namespace Go.Lx
open Go Go.Sx
instance : Rp sealskinref02_Reader where
 n := 3
 cs := fun G x l => ∃ A1 c1, l = [.slice A1 x.B_.length c1, vi x.At_, vi x.E_] ∧ (x.B_.length ≤ c1 ∧ Sl G A1 x.B_)
 mono := fun hl ⟨A1, c1, e, ⟨a0, b0⟩⟩ => ⟨A1, c1, e, ⟨a0, b0.up hl⟩⟩
 len := fun ⟨A1, c1, e, _⟩ => by rw [e]; rfl
 one := fun ⟨A1, c1, e, _⟩ => by rw [e]; rfl
end Go.Lx
namespace Go.Proofs.YtbjmngacjdcddaaDoor
open Go Go.Sx Go.Lx
namespace TFtC
theorem hm : Tryd.prog.follows .mixedOrders = true := by kernel_rfl
theorem ag22 : aggB Tryd.prog 22 = some false := by kernel_rfl
theorem ag3 : aggB Tryd.prog 3 = some false := by kernel_rfl
theorem ag30 : aggB Tryd.prog 30 = some false := by kernel_rfl
theorem ag5 : aggB Tryd.prog 5 = some false := by kernel_rfl
theorem bd71 : bodied Tryd.prog 71 = true := by kernel_rfl
theorem el30 : Elem Tryd.prog 30 5 1 1 := Elem.of (by kernel_rfl)
theorem fo69_0 : offB Tryd.prog 69 0 = some 0 := by kernel_rfl
theorem fo69_1 : offB Tryd.prog 69 1 = some 1 := by kernel_rfl
theorem fo69_2 : offB Tryd.prog 69 2 = some 2 := by kernel_rfl
theorem sz22 : sz Tryd.prog 22 = some 1 := by kernel_rfl
theorem sz3 : sz Tryd.prog 3 = some 1 := by kernel_rfl
theorem sz5 : sz Tryd.prog 5 = some 1 := by kernel_rfl
end TFtC
open TFtC
theorem sealskinref02_number_ok {G : Gh} {w : World} (hS : St G w) (hg : GL G) {A0 : Option Addr} {c0 : Nat} {x0 : List UInt8} (hc0 : x0.length ≤ c0) (hs0 : Sl G A0 x0) {Q : Int → Int → Prop} (h : sealskinref02_number x0 Q) : Calls Tryd.prog 71 #[.slice A0 x0.length c0] w fun e w2 => ∃ (r0 : Int) (r1 : Int) (L H : Gh), e = .returned (.tuple #[vi r0, vi r1]) ∧ Inv [] G w L H w2 ∧ Q r0 r1 := by
 unfold sealskinref02_number at h
 have hI := Inv.start (M := []) hS
 refine calls_W 26 Tryd.func71 rfl Tryd.ntmps71 rfl [.tmp 2, .tmp 3] rfl ?_
 refine W_seq_k fun K1 k1 => ?_
 refine W_region [2, 3] rfl (Ops_step (R_assign rfl) rfl rfl (Ops_step (R_assign rfl) rfl rfl ?_))
 refine Ops_nil ?_
 refine then_n (k1 _ _ ?_)
 clear k1 K1
 refine W_seq_k fun K2 k2 => ?_
 refine W_seq_k fun K3 k3 => ?_
 refine W_region [6, 7, 8] rfl (Ops_step (R_move rfl) rfl rfl (Ops_step (R_len Tryd.underlying30 rfl rfl) rfl rfl (Ops_step (R_lss rfl rfl) rfl rfl ?_)))
 refine Ops_nil ?_
 refine then_n (k3 _ _ ?_)
 clear k3 K3
 refine W_if rfl (fun hc4_ => ?_) (fun hc4_ => ?_)
 ·
  replace h := h.1 hc4_
  refine W_seq_k fun K5 k5 => ?_
  refine W_region [2, 3] rfl (Ops_step (R_assign rfl) rfl rfl (Ops_step (R_assign rfl) rfl rfl ?_))
  refine Ops_nil ?_
  refine then_n (k5 _ _ ?_)
  clear k5 K5
  refine W_ret ?_
  refine then_ret ?_
  clear k2 K2
  refine ⟨_, ⟨_, _, rfl, rfl, ⟨_, _, rfl, rfl, rfl⟩⟩, ?_⟩
  exact ⟨0, 2, _, _, rfl, hI, h⟩
 ·
  replace h := h.2 hc4_
  refine W_skip ?_
  refine then_n (k2 _ _ ?_)
  clear k2 K2
  refine W_seq_k fun K6 k6 => ?_
  refine W_seq_k fun K7 k7 => ?_
  refine W_region [9, 10, 11, 12] rfl (Ops_step (R_move rfl) rfl rfl ?_)
  refine ex_ h fun x8_ hx8_ h => ?_
  have ha8_ := (hs0.atS hx8_).1
  have hg8_ := (hs0.atS hx8_).2
  refine Ops_step (R_indexSl Tryd.underlying30 sz5 rfl rfl hx8_.1 hx8_.lt ha8_) rfl rfl (Ops_step (R_load ag5 rfl (hI.st _ _ hg8_)) rfl rfl (Ops_step (R_gtr rfl rfl) rfl rfl ?_))
  refine Ops_nil ?_
  refine then_n (k7 _ _ ?_)
  clear k7 K7
  refine W_keepB [0, 12] fun B_ b_ => ?_
  simp only [e_, Nat.reduceAdd, Nat.reduceBEq] at b_
  subst b_
  refine W_if rfl (fun hc10_ => ?_) (fun hc10_ => ?_)
  ·
   replace h := h.1 hc10_
   refine W_seq_k fun K11 k11 => ?_
   refine W_region [2, 3] rfl (Ops_step (R_assign rfl) rfl rfl (Ops_step (R_assign rfl) rfl rfl ?_))
   refine Ops_nil ?_
   refine then_n (k11 _ _ ?_)
   clear k11 K11
   refine W_ret ?_
   refine then_ret ?_
   clear k6 K6
   refine ⟨_, ⟨_, _, rfl, rfl, ⟨_, _, rfl, rfl, rfl⟩⟩, ?_⟩
   exact ⟨0, 5, _, _, rfl, hI, h⟩
  ·
   replace h := h.2 hc10_
   refine W_skip ?_
   refine then_n (k6 _ _ ?_)
   clear k6 K6
   refine W_seq_k fun K12 k12 => ?_
   refine W_region [4] rfl (Ops_step (R_assign rfl) rfl rfl ?_)
   refine Ops_nil ?_
   refine then_n (k12 _ _ ?_)
   clear k12 K12
   refine ex_ h fun J13_ hr13_ h => ?_
   refine W_seq_join [] [4] (fun vals_ w2 => ∃ (x4_13 : Int) (L H : Gh), vals_ = [vi x4_13] ∧ J13_ x4_13 ∧ Inv [] G w L H w2 ∧ Le Gh.no L ∧ Le G H ∧ True) (fun B_ b_ => ?_) (fun B_ b_ => ?_)
   ·
    simp only [e_, Nat.reduceAdd, Nat.reduceBEq] at b_
    subst b_
    clear hr13_
    have hll13_ := Le.refl Gh.no
    have hhh13_ := Le.refl G
    refine W_seq_k fun K14 k14 => ?_
    refine W_region [13] rfl (Ops_step (R_move rfl) rfl rfl ?_)
    refine Ops_nil ?_
    refine then_n (k14 _ _ ?_)
    clear k14 K14
    refine W_block ?_
    refine Exists.elim h fun I15_ h => Exists.elim h fun n15_ h => ?_
    have h0_ := h.1
    have hs15_ := h.2
    clear h
    refine W_loopB [0] [4, 13] (fun m vals_ w2 => ∃ (x4_15 : Int) (x13_15 : Int) (L H : Gh), vals_ = [vi x4_15, vi x13_15] ∧ I15_ m x4_15 x13_15 ∧ Inv [] G w L H w2 ∧ Le Gh.no L ∧ Le G H ∧ True) n15_ _ rfl ⟨0, 0, _, _, rfl, h0_, hI, Le.refl _, Le.refl _, trivial⟩ fun B_ b_ => ?_
    clear h0_
    simp only [e_, Nat.reduceAdd, Nat.reduceBEq] at b_
    subst b_
    rintro m15_ _ w15_ ⟨x4_15, x13_15, L15_, H15_, rfl, hJ15_, hI15_, hll15_, hhh15_, -⟩
    replace hI := hI15_
    clear hI15_
    have h := hs15_ m15_ x4_15 x13_15 hJ15_
    clear hs15_ hJ15_
    replace hs0 := hs0.up hhh15_
    replace hll13_ := hll13_.trans hll15_
    replace hhh13_ := hhh13_.trans hhh15_
    refine W_seq_k fun K16 k16 => ?_
    refine W_region [14] rfl (Ops_step (R_lss rfl rfl) rfl rfl ?_)
    refine Ops_nil ?_
    refine then_n (k16 _ _ ?_)
    clear k16 K16
    refine W_seq_k fun K17 k17 => ?_
    refine W_if rfl (fun hc18_ => ?_) (fun hc18_ => ?_)
    ·
     replace h := h.1 hc18_
     refine W_skip ?_
     refine then_n (k17 _ _ ?_)
     clear k17 K17
     refine W_seq_k fun K19 k19 => ?_
     refine W_block ?_
     refine W_seq_k fun K20 k20 => ?_
     refine W_region [15, 5] rfl (Ops_step (R_move rfl) rfl rfl (Ops_step (R_assign rfl) rfl rfl ?_))
     refine Ops_nil ?_
     refine then_n (k20 _ _ ?_)
     clear k20 K20
     refine W_region [16, 17, 18, 19, 20, 21, 22, 23, 4] rfl (Ops_step (R_move rfl) rfl rfl ?_)
     have hk21_ := h.1
     replace h := h.2
     refine Ops_step (R_mul rfl rfl (wI hk21_.1 hk21_.2)) rfl rfl (Ops_step (R_move rfl) rfl rfl (Ops_step (R_move rfl) rfl rfl ?_))
     refine ex_ h fun x22_ hx22_ h => ?_
     have ha22_ := (hs0.atS hx22_).1
     have hg22_ := (hs0.atS hx22_).2
     refine Ops_step (R_indexSl Tryd.underlying30 sz5 rfl rfl hx22_.1 hx22_.lt ha22_) rfl rfl (Ops_step (R_load ag5 rfl (hI.st _ _ hg22_)) rfl rfl (Ops_step (R_conv Tryd.underlying5 Tryd.underlying3 rfl (c8_I _)) rfl rfl ?_))
     have hk23_ := h.1
     replace h := h.2
     refine Ops_step (R_add rfl rfl (wI hk23_.1 hk23_.2)) rfl rfl (Ops_step (R_assign rfl) rfl rfl ?_)
     refine Ops_nil ?_
     refine block_n ?_
     refine then_n (k19 _ _ ?_)
     clear k19 K19
     refine W_keepB [0, 4, 13] fun B_ b_ => ?_
     simp only [e_, Nat.reduceAdd, Nat.reduceBEq] at b_
     subst b_
     refine W_region [24, 13] rfl ?_
     have hk25_ := h.1
     replace h := h.2
     refine Ops_step (R_add rfl rfl (wI hk25_.1 hk25_.2)) rfl rfl (Ops_step (R_move rfl) rfl rfl ?_)
     refine Ops_nil ?_
     refine then_n ?_
     exact h.elim fun m_ h => ⟨m_, _, h.1, rfl, ⟨((256 * x4_15) + (x22_.toNat : Int)), (x13_15 + 1), _, _, rfl, h.2, hI, hll15_, hhh15_, trivial⟩, ⟨rfl, trivial⟩⟩
    ·
     replace h := h.2 hc18_
     refine W_exit ?_
     refine then_exit ?_
     clear k17 K17
     refine then_exit ?_
     refine block_exit ?_
     refine then_n ?_
     exact ⟨_, rfl, ⟨x4_15, _, _, rfl, h, hI, hll13_, hhh13_, trivial⟩, trivial⟩
   ·
    simp only [e_, Nat.reduceAdd, Nat.reduceBEq] at b_
    subst b_
    clear h
    rintro _ w13_ ⟨x4_13, L13_, H13_, rfl, hJ13_, hI13_, hll13_, hhh13_, -⟩
    replace hI := hI13_
    clear hI13_
    have h := hr13_ x4_13 hJ13_
    clear hr13_ hJ13_
    refine W_seq_k fun K26 k26 => ?_
    refine W_region [25, 2, 3] rfl (Ops_step (R_move rfl) rfl rfl (Ops_step (R_assign rfl) rfl rfl (Ops_step (R_assign rfl) rfl rfl ?_)))
    refine Ops_nil ?_
    refine then_n (k26 _ _ ?_)
    clear k26 K26
    refine W_ret ?_
    refine ⟨_, ⟨_, _, rfl, rfl, ⟨_, _, rfl, rfl, rfl⟩⟩, ?_⟩
    exact ⟨x4_13, 0, _, _, rfl, hI, h⟩

theorem sealskinref02_Reader_Number_ok {G : Gh} {w : World} (hS : St G w) (hg : GL G) {d0 tb0 : Nat} {x0 : sealskinref02_Reader} (hr0 : Ob tb0 G G w d0 x0) {Q : Int → sealskinref02_Reader → Prop} (h : sealskinref02_Reader_Number x0 Q) : Calls Tryd.prog 47 #[.pointer (some ⟨d0, 0, none⟩)] w fun e w2 => ∃ (r0 : Int) (y0 : sealskinref02_Reader) (L H : Gh), e = .returned (vi r0) ∧ Inv [d0] G w L H w2 ∧ Ob tb0 H H w2 d0 y0 ∧ Q r0 y0 := by
 unfold sealskinref02_Reader_Number at h
 have hI := Inv.start (M := [d0]) hS
 refine calls_W 37 Tryd.func47 rfl Tryd.ntmps47 rfl [.tmp 2] rfl ?_
 obtain ⟨l0_, hl0_, ht0⟩ := hr0
 obtain ⟨A0_1, c0_1, rfl, ⟨hc0_1, hs0_1⟩⟩ := hl0_
 have hlt_d0 := ht0.blk.lt
 refine W_seq_k fun K1 k1 => ?_
 refine W_region [2] rfl (Ops_step (R_assign rfl) rfl rfl ?_)
 refine Ops_nil ?_
 refine then_n (k1 _ _ ?_)
 clear k1 K1
 refine W_seq_k fun K2 k2 => ?_
 refine W_seq_k fun K3 k3 => ?_
 refine W_region [5, 6, 7, 8, 9] rfl (Ops_step (R_move rfl) rfl rfl (Ops_step (R_nilCheck rfl) rfl rfl (Ops_step (R_fieldAddr fo69_2 rfl) rfl rfl ?_)))
 refine Ops_step (R_loadB (v := vi x0.E_) ag22 rfl ht0.blk rfl) rfl rfl ?_
 refine Ops_step (R_neq rfl rfl) rfl rfl ?_
 refine Ops_nil ?_
 refine then_n (k3 _ _ ?_)
 clear k3 K3
 refine W_if rfl (fun hc4_ => ?_) (fun hc4_ => ?_)
 ·
  replace h := h.1 hc4_
  refine W_seq_k fun K5 k5 => ?_
  refine W_region [2] rfl (Ops_step (R_assign rfl) rfl rfl ?_)
  refine Ops_nil ?_
  refine then_n (k5 _ _ ?_)
  clear k5 K5
  refine W_keepB [2] fun B_ b_ => ?_
  simp only [e_, Nat.reduceAdd, Nat.reduceBEq] at b_
  subst b_
  refine W_ret ?_
  refine then_ret ?_
  clear k2 K2
  refine ⟨_, ⟨_, _, rfl, rfl, rfl⟩, ?_⟩
  exact ⟨0, x0, _, _, rfl, hI, ⟨_, ⟨A0_1, c0_1, rfl, ⟨hc0_1, hs0_1⟩⟩, ht0⟩, h⟩
 ·
  replace h := h.2 hc4_
  refine W_skip ?_
  refine then_n (k2 _ _ ?_)
  clear k2 K2
  refine W_keepB [0] fun B_ b_ => ?_
  simp only [e_, Nat.reduceAdd, Nat.reduceBEq] at b_
  subst b_
  refine W_seq_k fun K8 k8 => ?_
  refine W_drawF [11, 12, 13, 14, 15, 16, 17, 18, 19, 20, 10, 21, 22, 3, 4] [(0, true), (1, true), (2, true), (3, true), (4, true), (5, true), (6, true), (7, true), (8, true), (9, false), (10, true), (11, true), (12, true), (13, true), (14, true)] TFtC.hm rfl (by kernel_rfl) fun ops9_ w9_ hops9_ hF9_ => ?_
  replace hI := hI.fr0 hF9_
  replace ht0 := ht0.fr0 hF9_
  clear hF9_
  refine HSp (R_move rfl) rfl rfl (HSp (R_nilCheck rfl) rfl rfl (HSp (R_fieldAddr fo69_0 rfl) rfl rfl ?_))
  refine HS_loadB (v := .slice A0_1 x0.B_.length c0_1) ag30 rfl ht0.blk rfl rfl rfl ?_
  refine HSp (R_move rfl) rfl rfl (HSp (R_nilCheck rfl) rfl rfl (HSp (R_fieldAddr fo69_1 rfl) rfl rfl ?_))
  refine HS_loadB (v := vi x0.At_) ag3 rfl ht0.blk rfl rfl rfl ?_
  have hk11_ := h.1
  replace h := h.2
  have hk12_ := h.1
  replace h := h.2
  refine Exists.elim (cut_ex (n := 1) (l := x0.At_) (h := (x0.B_.length : Int)) hs0_1 rfl (by decide) hc0_1 hk11_ hk12_ (Int.le_refl _)) fun A10_ h10_ => Exists.elim h10_ fun c10_ h10_ => ?_
  have hr10_ := h10_.1
  have hc10_ := h10_.2.1
  have hs10_ := h10_.2.2
  clear h10_
  refine HSp (X_slice (xs := x0.B_) Tryd.underlying30 sz5 rfl hr10_ hc0_1 rfl rfl hk11_ hk12_ (Int.le_refl _)) rfl rfl ?_
  clear hr10_
  refine HS_call [] _ rfl (by rw [hops9_]; kernel_rfl) (C_func bd71 rfl) rfl rfl ?_
  refine (sealskinref02_number_ok (x0 := (cut x0.B_ x0.At_ (x0.B_.length : Int))) hI.st (hg.up hI.le) hc10_ hs10_ h).mono ?_
  rintro _ w13_ ⟨r13_0, r13_1, L13_, H13_, rfl, hI13_, h⟩
  refine Exists.elim (hI.call hI13_ (by simp)) fun L130_ h13_ => ?_
  have hz13_ := hI.size
  replace hI := h13_.1
  have u13_ := h13_.2.1
  have hl13_ := h13_.2.2
  clear h13_
  replace hs0_1 := hs0_1.up u13_.hh
  replace ht0 := ht0.up u13_ (by simp)
  clear hI13_ u13_ hl13_
  refine ⟨_, rfl, trivial, ?_⟩
  refine HSp (R_move rfl) rfl rfl ?_
  refine HSp (R_extract (v := vi r13_0) rfl rfl) rfl rfl ?_
  refine HSp (R_extract (v := vi r13_1) rfl rfl) rfl rfl ?_
  refine HSp (R_assign rfl) rfl rfl (HSp (R_assign rfl) rfl rfl ?_)
  refine HS_nil ?_
  clear hops9_
  refine then_n (k8 _ _ ?_)
  clear k8 K8
  refine W_keepB [0, 3, 4] fun B_ b_ => ?_
  simp only [e_, Nat.reduceAdd, Nat.reduceBEq] at b_
  subst b_
  refine W_seq_k fun K15 k15 => ?_
  refine W_seq_k fun K16 k16 => ?_
  refine W_region [23, 24] rfl (Ops_step (R_move rfl) rfl rfl (Ops_step (R_neq rfl rfl) rfl rfl ?_))
  refine Ops_nil ?_
  refine then_n (k16 _ _ ?_)
  clear k16 K16
  refine W_if rfl (fun hc17_ => ?_) (fun hc17_ => ?_)
  ·
   replace h := h.1 hc17_
   refine W_seq_k fun K18 k18 => ?_
   refine W_region [25, 26, 27, 28, none] rfl (Ops_step (R_move rfl) rfl rfl (Ops_step (R_move rfl) rfl rfl (Ops_step (R_nilCheck rfl) rfl rfl (Ops_step (R_fieldAddr fo69_2 rfl) rfl rfl ?_))))
   refine Ops_to0 (R_store sz22 rfl rfl ht0.blk (by show 2 < 3; decide) rfl) rfl ?_
   rintro _ w19_ ⟨hB19_, hF19_⟩
   replace hI := hI.tok hF19_ (out1 ht0.out) (mem1 (by simp))
   replace ht0 : Tok H13_ _ d0 tb0 ([.slice A0_1 x0.B_.length c0_1, vi x0.At_, vi r13_1]) := ⟨hB19_, ht0.out⟩
   clear hF19_ hB19_
   refine Ops_nil ?_
   refine then_n (k18 _ _ ?_)
   clear k18 K18
   refine W_keepB [] fun B_ b_ => ?_
   simp only [e_, Nat.reduceAdd, Nat.reduceBEq] at b_
   subst b_
   refine W_seq_k fun K21 k21 => ?_
   refine W_region [2] rfl (Ops_step (R_assign rfl) rfl rfl ?_)
   refine Ops_nil ?_
   refine then_n (k21 _ _ ?_)
   clear k21 K21
   refine W_ret ?_
   refine then_ret ?_
   clear k15 K15
   refine ⟨_, ⟨_, _, rfl, rfl, rfl⟩, ?_⟩
   exact ⟨0, (sealskinref02_Reader.mk x0.B_ x0.At_ r13_1), _, _, rfl, hI, ⟨_, ⟨A0_1, c0_1, rfl, ⟨hc0_1, hs0_1⟩⟩, ht0⟩, h⟩
  ·
   replace h := h.2 hc17_
   refine W_skip ?_
   refine then_n (k15 _ _ ?_)
   clear k15 K15
   refine W_seq_k fun K22 k22 => ?_
   refine W_region [29, 30, 31, 32, 33, 34, 35, none] rfl (Ops_step (R_move rfl) rfl rfl (Ops_step (R_nilCheck rfl) rfl rfl (Ops_step (R_fieldAddr fo69_1 rfl) rfl rfl ?_)))
   refine Ops_step (R_loadB (v := vi x0.At_) ag3 rfl ht0.blk rfl) rfl rfl ?_
   have hk23_ := h.1
   replace h := h.2
   refine Ops_step (R_add rfl rfl (wI hk23_.1 hk23_.2)) rfl rfl (Ops_step (R_nilCheck rfl) rfl rfl (Ops_step (R_fieldAddr fo69_1 rfl) rfl rfl ?_))
   refine Ops_to0 (R_store sz3 rfl rfl ht0.blk (by show 1 < 3; decide) rfl) rfl ?_
   rintro _ w24_ ⟨hB24_, hF24_⟩
   replace hI := hI.tok hF24_ (out1 ht0.out) (mem1 (by simp))
   replace ht0 : Tok H13_ _ d0 tb0 ([.slice A0_1 x0.B_.length c0_1, vi (x0.At_ + 8), vi x0.E_]) := ⟨hB24_, ht0.out⟩
   clear hF24_ hB24_
   refine Ops_nil ?_
   refine then_n (k22 _ _ ?_)
   clear k22 K22
   refine W_keepB [3] fun B_ b_ => ?_
   simp only [e_, Nat.reduceAdd, Nat.reduceBEq] at b_
   subst b_
   refine W_seq_k fun K26 k26 => ?_
   refine W_region [36, 2] rfl (Ops_step (R_move rfl) rfl rfl (Ops_step (R_assign rfl) rfl rfl ?_))
   refine Ops_nil ?_
   refine then_n (k26 _ _ ?_)
   clear k26 K26
   refine W_ret ?_
   refine ⟨_, ⟨_, _, rfl, rfl, rfl⟩, ?_⟩
   exact ⟨r13_0, (sealskinref02_Reader.mk x0.B_ (x0.At_ + 8) x0.E_), _, _, rfl, hI, ⟨_, ⟨A0_1, c0_1, rfl, ⟨hc0_1, hs0_1⟩⟩, ht0⟩, h⟩

end Go.Proofs.YtbjmngacjdcddaaDoor

