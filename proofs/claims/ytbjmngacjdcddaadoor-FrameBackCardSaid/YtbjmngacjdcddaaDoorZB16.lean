/- What is shown of the program on the way to the law. -/
import Derived.Test.YtbjmngacjdcddaaDoorZB2
import Derived.Test.YtbjmngacjdcddaaDoorZB12
import Derived.Test.YtbjmngacjdcddaaDoorZB14
import Derived.Test.YtbjmngacjdcddaaDoorProg
set_option linter.unusedVariables false
set_option linter.unusedSimpArgs false
set_option maxHeartbeats 4000000
namespace Go.Proofs.YtbjmngacjdcddaaDoor
open Go Go.Sx Go.Lx
namespace TFtF
theorem hm : Tryd.prog.follows .mixedOrders = true := by kernel_rfl
theorem ag22 : aggB Tryd.prog 22 = some false := by kernel_rfl
theorem ag23 : aggB Tryd.prog 23 = some false := by kernel_rfl
theorem ag25 : aggB Tryd.prog 25 = some true := by kernel_rfl
theorem ag3 : aggB Tryd.prog 3 = some false := by kernel_rfl
theorem ag54 : aggB Tryd.prog 54 = some true := by kernel_rfl
theorem ag9 : aggB Tryd.prog 9 = some false := by kernel_rfl
theorem bd14 : bodied Tryd.prog 14 = true := by kernel_rfl
theorem bd44 : bodied Tryd.prog 44 = true := by kernel_rfl
theorem bd45 : bodied Tryd.prog 45 = true := by kernel_rfl
theorem bd52 : bodied Tryd.prog 52 = true := by kernel_rfl
theorem bd53 : bodied Tryd.prog 53 = true := by kernel_rfl
theorem bd62 : bodied Tryd.prog 62 = true := by kernel_rfl
theorem bd63 : bodied Tryd.prog 63 = true := by kernel_rfl
theorem bd64 : bodied Tryd.prog 64 = true := by kernel_rfl
theorem bd65 : bodied Tryd.prog 65 = true := by kernel_rfl
theorem el23 : Elem Tryd.prog 23 54 3 32 := Elem.of (by kernel_rfl)
theorem el56 : Elem Tryd.prog 56 3 1 8 := Elem.of (by kernel_rfl)
theorem fo25_0 : offB Tryd.prog 25 0 = some 0 := by kernel_rfl
theorem fo25_1 : offB Tryd.prog 25 1 = some 1 := by kernel_rfl
theorem fo25_2 : offB Tryd.prog 25 2 = some 2 := by kernel_rfl
theorem fo25_3 : offB Tryd.prog 25 3 = some 3 := by kernel_rfl
theorem fo25_4 : offB Tryd.prog 25 4 = some 4 := by kernel_rfl
theorem fo25_5 : offB Tryd.prog 25 5 = some 5 := by kernel_rfl
theorem fo25_6 : offB Tryd.prog 25 6 = some 6 := by kernel_rfl
theorem fo25_7 : offB Tryd.prog 25 7 = some 7 := by kernel_rfl
theorem fo25_8 : offB Tryd.prog 25 8 = some 8 := by kernel_rfl
theorem fo54_0 : offB Tryd.prog 54 0 = some 0 := by kernel_rfl
theorem fo54_1 : offB Tryd.prog 54 1 = some 1 := by kernel_rfl
theorem fo54_2 : offB Tryd.prog 54 2 = some 2 := by kernel_rfl
theorem pl25 : partPl Tryd.prog 25 = some [(0, 1), (1, 1), (2, 1), (3, 1), (4, 1), (5, 1), (6, 1), (7, 1), (8, 1)] := by kernel_rfl
theorem pl54 : partPl Tryd.prog 54 = some [(0, 1), (1, 1), (2, 1)] := by kernel_rfl
theorem sz22 : sz Tryd.prog 22 = some 1 := by kernel_rfl
theorem sz23 : sz Tryd.prog 23 = some 1 := by kernel_rfl
theorem sz25 : sz Tryd.prog 25 = some 9 := by kernel_rfl
theorem sz54 : sz Tryd.prog 54 = some 3 := by kernel_rfl
theorem zr25 : zr Tryd.prog 25 = some ([.int .i64 0] ++ [.int .i64 0] ++ [.int .i64 0] ++ [.int .i64 0] ++ [.int .i64 0] ++ [.int .i64 0] ++ [.int .i64 0] ++ [.int .i64 0] ++ [.slice none 0 0]) := by kernel_rfl
theorem zr3 : zr Tryd.prog 3 = some ([.int .i64 0]) := by kernel_rfl
theorem zr54 : zr Tryd.prog 54 = some ([.int .i64 0] ++ [.int .i64 0] ++ [.string ByteArray.empty]) := by kernel_rfl
end TFtF
open TFtF
theorem frame_Put_ok {G : Gh} {w : World} (hS : St G w) (hg : GL G) {l0 : List Value} {x0 : api_Msg} (hr0 : Rp.cs G x0 l0) {Q : (List UInt8) → Int → Prop} (h : frame_Put x0 Q) : Calls Tryd.prog 23 #[.agg l0.toArray] w fun e w2 => ∃ (A0 : Option Addr) (c0 : Nat) (r0 : List UInt8) (r1 : Int) (L H : Gh), e = .returned (.tuple #[.slice A0 r0.length c0, vi r1]) ∧ Inv [] G w L H w2 ∧ OwnS w.heap.size 5 L H w2 A0 c0 r0 ∧ Q r0 r1 := by
 unfold frame_Put at h
 have hI := Inv.start (M := []) hS
 refine calls_W 53 Tryd.func23 rfl Tryd.ntmps23 rfl [.tmp 2, .tmp 3] rfl ?_
 obtain ⟨A0_1, c0_1, rfl, ⟨hc0_1, hs0_1⟩⟩ := hr0
 refine W_seq_k fun K1 k1 => ?_
 refine W_region [1, 2, 3] rfl ?_
 have hI0_ := hI
 refine Ops_to (R_box rfl) rfl rfl ?_
 rintro _ w2_ ⟨b2_, rfl, hb2_, hB2_, hF2_⟩
 replace hI := hI.fr0 hF2_
 have ht2_ : Tok G _ b2_ 25 ([vi x0.Kind_, vi x0.Who_, vi x0.Seq_, vi x0.Rev_, vi x0.At_, vi x0.N_, vi x0.Target_, vi x0.Err_, .slice A0_1 x0.Edit_.length c0_1]) := ⟨hB2_.to rfl, Out.ge hI0_.st (Nat.le_of_eq hb2_.symm)⟩
 have hge_b2_ : w.heap.size ≤ b2_ := hb2_ ▸ hI0_.size
 clear hB2_ hb2_ hI0_ hF2_
 refine Ops_step (R_assign rfl) rfl rfl (Ops_step (R_assign rfl) rfl rfl ?_)
 refine Ops_nil ?_
 refine then_n (k1 _ _ ?_)
 clear k1 K1
 refine W_seq_k fun K3 k3 => ?_
 refine W_seq_k fun K4 k4 => ?_
 refine W_region [8, 9, 4] rfl (Ops_step (R_loadN ag25 sz25 rfl ht2_.blk (Nat.le_of_ble_eq_true rfl)) rfl rfl ?_)
 refine Ops_call (C_func bd14 rfl) rfl rfl ?_
 refine (frame_Check_ok (x0 := x0) hI.st (hg.up hI.le) ⟨A0_1, c0_1, rfl, ⟨hc0_1, hs0_1⟩⟩ h).mono ?_
 rintro _ w5_ ⟨r5_0, L5_, H5_, rfl, hI5_, h⟩
 refine Exists.elim (hI.call hI5_ (by simp)) fun L50_ h5_ => ?_
 have hz5_ := hI.size
 replace hI := h5_.1
 have u5_ := h5_.2.1
 have hl5_ := h5_.2.2
 clear h5_
 replace hs0_1 := hs0_1.up u5_.hh
 replace ht2_ := ht2_.up u5_ (by simp)
 clear hI5_ u5_ hl5_
 refine ⟨_, rfl, ?_⟩
 refine Ops_step (R_assign rfl) rfl rfl ?_
 refine Ops_nil ?_
 refine then_n (k4 _ _ ?_)
 clear k4 K4
 refine W_seq_k fun K6 k6 => ?_
 refine W_region [10, 11] rfl (Ops_step (R_move rfl) rfl rfl (Ops_step (R_neq rfl rfl) rfl rfl ?_))
 refine Ops_nil ?_
 refine then_n (k6 _ _ ?_)
 clear k6 K6
 refine W_keepB [1, 4, 11] fun B_ b_ => ?_
 simp only [e_, Nat.reduceAdd, Nat.reduceBEq] at b_
 subst b_
 refine W_if rfl (fun hc8_ => ?_) (fun hc8_ => ?_)
 ·
  replace h := h.1 hc8_
  refine W_seq_k fun K9 k9 => ?_
  refine W_region [12, 2, 3] rfl (Ops_step (R_move rfl) rfl rfl (Ops_step (R_assign rfl) rfl rfl (Ops_step (R_assign rfl) rfl rfl ?_)))
  refine Ops_nil ?_
  refine then_n (k9 _ _ ?_)
  clear k9 K9
  refine W_ret ?_
  refine then_ret ?_
  clear k3 K3
  refine ⟨_, ⟨_, _, rfl, rfl, ⟨_, _, rfl, rfl, rfl⟩⟩, ?_⟩
  exact ⟨none, 0, [], r5_0, _, _, rfl, hI, OwnS.nil, h⟩
 ·
  replace h := h.2 hc8_
  refine W_skip ?_
  refine then_n (k3 _ _ ?_)
  clear k3 K3
  refine W_seq_k fun K10 k10 => ?_
  refine W_region [13, 14, 15, 16, 17, 18, 19, 20, 21, 22, 23, 24, 25, 26, 27, 28, 29, 30, 31, 32, 33, 5] rfl (Ops_step (R_fieldAddr fo25_0 rfl) rfl rfl ?_)
  refine Ops_step (R_loadB (v := vi x0.Kind_) ag3 rfl ht2_.blk rfl) rfl rfl ?_
  refine Ops_step (R_fieldAddr fo25_1 rfl) rfl rfl ?_
  refine Ops_step (R_loadB (v := vi x0.Who_) ag3 rfl ht2_.blk rfl) rfl rfl ?_
  refine Ops_step (R_fieldAddr fo25_2 rfl) rfl rfl ?_
  refine Ops_step (R_loadB (v := vi x0.Seq_) ag3 rfl ht2_.blk rfl) rfl rfl ?_
  refine Ops_step (R_fieldAddr fo25_3 rfl) rfl rfl ?_
  refine Ops_step (R_loadB (v := vi x0.Rev_) ag3 rfl ht2_.blk rfl) rfl rfl ?_
  refine Ops_step (R_fieldAddr fo25_4 rfl) rfl rfl ?_
  refine Ops_step (R_loadB (v := vi x0.At_) ag3 rfl ht2_.blk rfl) rfl rfl ?_
  refine Ops_step (R_fieldAddr fo25_5 rfl) rfl rfl ?_
  refine Ops_step (R_loadB (v := vi x0.N_) ag3 rfl ht2_.blk rfl) rfl rfl ?_
  refine Ops_step (R_fieldAddr fo25_6 rfl) rfl rfl ?_
  refine Ops_step (R_loadB (v := vi x0.Target_) ag3 rfl ht2_.blk rfl) rfl rfl ?_
  refine Ops_step (R_fieldAddr fo25_7 rfl) rfl rfl ?_
  refine Ops_step (R_loadB (v := vi x0.Err_) ag22 rfl ht2_.blk rfl) rfl rfl ?_
  refine Ops_step (R_fieldAddr fo25_8 rfl) rfl rfl ?_
  refine Ops_step (R_loadB (v := .slice A0_1 x0.Edit_.length c0_1) ag23 rfl ht2_.blk rfl) rfl rfl ?_
  refine Ops_step (R_len Tryd.underlying23 rfl rfl) rfl rfl ?_
  refine Ops_to (R_buildSlice el56 zr3 (by decide) (by decide) rfl rfl) rfl rfl ?_
  rintro _ w11_ ⟨b11_, rfl, hb11_, hB11_, hF11_⟩
  have ho11_ : OwnS w.heap.size 3 Gh.no H5_ _ (some ⟨b11_, 0, none⟩) 9 ([x0.Kind_, x0.Who_, x0.Seq_, x0.Rev_, x0.At_, x0.N_, x0.Target_, x0.Err_, (x0.Edit_.length : Int)] : List Int) := OwnS.ofBlk hI.st hb11_ hB11_ (all2_sc' _) rfl (by have := hI.size; omega) (by show 9 ≤ maxLen; decide)
  replace hI := hI.fr0 hF11_
  replace ht2_ := ht2_.fr0 hF11_
  clear hF11_ hB11_
  refine Exists.elim (ho11_.lend hI.st (Le.no _)) fun Hb12_0_ hb12_0_ => ?_
  refine Ops_call (C_func bd52 rfl) rfl rfl ?_
  refine (octet_Put_ok (x0 := []) (x1 := ([x0.Kind_, x0.Who_, x0.Seq_, x0.Rev_, x0.At_, x0.N_, x0.Target_, x0.Err_, (x0.Edit_.length : Int)] : List Int)) hb12_0_.1 (hg.up (hI.le.trans hb12_0_.2.1)) (Nat.le_refl 0) Sl.nil (Nat.le_refl _) hb12_0_.2.2 h).mono ?_
  rintro _ w12_ ⟨A12_0, c12_0, r12_0, L12_, H12_, rfl, hI12_, ho12_0, h⟩
  refine Exists.elim (hI.callB hb12_0_.2.1 hI12_ (by simp)) fun L120_ h12_ => Exists.elim h12_ fun H120_ h12_ => ?_
  have hz12_ := hI.size
  replace hI := h12_.1
  have u12_ := h12_.2.1
  have hl12_ := h12_.2.2.1
  have hh12_ := h12_.2.2.2
  clear h12_
  replace hs0_1 := hs0_1.up u12_.hh
  replace ht2_ := ht2_.up u12_ (by simp)
  replace ho12_0 := OwnS.backS ho12_0 hz12_ hh12_
  clear hI12_ u12_ hl12_
  refine ⟨_, rfl, ?_⟩
  refine Ops_step (R_assign rfl) rfl rfl ?_
  refine Ops_nil ?_
  refine then_n (k10 _ _ ?_)
  clear k10 K10
  refine W_keepB [1, 5] fun B_ b_ => ?_
  simp only [e_, Nat.reduceAdd, Nat.reduceBEq] at b_
  subst b_
  refine ex_ h fun J14_ hr14_ h => ?_
  refine W_seq_join [] [5] (fun vals_ w2 => ∃ (x5_14 : List UInt8) (A5_14 : Option Addr) (c5_14 : Nat) (L H : Gh), vals_ = [.slice A5_14 x5_14.length c5_14] ∧ J14_ x5_14 ∧ Inv [] G w L H w2 ∧ Le L120_ L ∧ Le H120_ H ∧ OwnS w.heap.size 5 Gh.no H w2 A5_14 c5_14 x5_14 ∧ True) (fun B_ b_ => ?_) (fun B_ b_ => ?_)
  ·
   simp only [e_, Nat.reduceAdd, Nat.reduceBEq] at b_
   subst b_
   clear hr14_
   have hll14_ := Le.refl L120_
   have hhh14_ := Le.refl H120_
   refine W_seq_k fun K15 k15 => ?_
   refine W_region [34, 35, 36, 37] rfl (Ops_step (R_fieldAddr fo25_8 rfl) rfl rfl ?_)
   refine Ops_step (R_loadB (v := .slice A0_1 x0.Edit_.length c0_1) ag23 rfl ht2_.blk rfl) rfl rfl ?_
   refine Ops_step (R_len Tryd.underlying23 rfl rfl) rfl rfl (Ops_step (R_move rfl) rfl rfl ?_)
   refine Ops_nil ?_
   refine then_n (k15 _ _ ?_)
   clear k15 K15
   refine W_block ?_
   refine Exists.elim h fun I16_ h => Exists.elim h fun n16_ h => ?_
   have h0_ := h.1
   have hs16_ := h.2
   clear h
   refine W_loopB [35, 36] [5, 37] (fun m vals_ w2 => ∃ (x5_16 : List UInt8) (A5_16 : Option Addr) (c5_16 : Nat) (x37_16 : Int) (L H : Gh), vals_ = [.slice A5_16 x5_16.length c5_16, vi x37_16] ∧ I16_ m x5_16 x37_16 ∧ Inv [] G w L H w2 ∧ Le L120_ L ∧ Le H120_ H ∧ OwnS w.heap.size 5 Gh.no H w2 A5_16 c5_16 x5_16 ∧ True) n16_ _ rfl ⟨r12_0, A12_0, c12_0, 0, _, _, rfl, h0_, hI, Le.refl _, Le.refl _, ho12_0, trivial⟩ fun B_ b_ => ?_
   clear h0_
   simp only [e_, Nat.reduceAdd, Nat.reduceBEq] at b_
   subst b_
   rintro m16_ _ w16_ ⟨x5_16, A5_16, c5_16, x37_16, L16_, H16_, rfl, hJ16_, hI16_, hll16_, hhh16_, ho5_16, -⟩
   replace hI := hI16_
   clear hI16_
   have h := hs16_ m16_ x5_16 x37_16 hJ16_
   clear hs16_ hJ16_
   replace hs0_1 := hs0_1.up hhh16_
   replace hll14_ := hll14_.trans hll16_
   replace hhh14_ := hhh14_.trans hhh16_
   refine W_seq_k fun K17 k17 => ?_
   refine W_region [38] rfl (Ops_step (R_lss rfl rfl) rfl rfl ?_)
   refine Ops_nil ?_
   refine then_n (k17 _ _ ?_)
   clear k17 K17
   refine W_seq_k fun K18 k18 => ?_
   refine W_if rfl (fun hc19_ => ?_) (fun hc19_ => ?_)
   ·
    replace h := h.1 hc19_
    refine W_skip ?_
    refine then_n (k18 _ _ ?_)
    clear k18 K18
    refine W_seq_k fun K20 k20 => ?_
    refine W_block ?_
    refine W_seq_k fun K21 k21 => ?_
    refine W_region [39, 40, 7, none] rfl ?_
    refine ex_ h fun x22_ hx22_ h => ?_
    have ha22_ := (Sl.atN (n := 3) rfl (by decide) hs0_1 hx22_).1
    refine Exists.elim (Sl.atN (n := 3) rfl (by decide) hs0_1 hx22_).2 fun l22_ hA22_ => ?_
    have hr22_ := hA22_.1
    have hg22_ := hA22_.2
    clear hA22_
    refine Ops_step (R_indexSl Tryd.underlying23 sz54 rfl rfl hx22_.1 hx22_.lt ha22_) rfl rfl ?_
    replace hr22_ : l22_ = [vi x22_.Kind_, vi x22_.N_, vs x22_.Text_] := hr22_
    subst hr22_
    refine Ops_step (R_loadCs (cs := [vi x22_.Kind_, vi x22_.N_, vs x22_.Text_]) ag54 sz54 rfl (fun j_ v_ hv_ => hI.st _ _ (hg22_ j_ v_ hv_))) rfl rfl ?_
    have hI0_ := hI
    refine Ops_to (R_alloc zr54) rfl rfl ?_
    rintro _ w23_ ⟨b23_, rfl, hb23_, hB23_, hF23_⟩
    replace hI := hI.fr0 hF23_
    replace ho5_16 := ho5_16.fr0 hF23_
    have ht23_ : Tok H16_ _ b23_ 54 ([vi 0, vi 0, vs (Str.mk [])]) := ⟨hB23_.to rfl, Out.ge hI0_.st (Nat.le_of_eq hb23_.symm)⟩
    have hge_b23_ : w.heap.size ≤ b23_ := hb23_ ▸ hI0_.size
    clear hB23_ hb23_ hI0_ hF23_
    refine Ops_to0 (R_storeN sz54 rfl rfl rfl ht23_.blk (Nat.le_of_ble_eq_true rfl) rfl) rfl ?_
    rintro _ w24_ ⟨hB24_, hF24_⟩
    replace hI := hI.tok hF24_ (out1 ht23_.out) (new1 hge_b23_)
    replace ho5_16 := ho5_16.fr hF24_ (ho5_16.ne ht23_.blk (by decide))
    replace ht23_ : Tok H16_ _ b23_ 54 ([vi x22_.Kind_, vi x22_.N_, vs x22_.Text_]) := ⟨hB24_, ht23_.out⟩
    clear hF24_ hB24_
    refine Ops_nil ?_
    refine then_n (k21 _ _ ?_)
    clear k21 K21
    refine W_drawF [41, 42, 43, 44, 45, 46, 47, 48, 49, 50, 5] [(0, true), (1, true), (2, true), (3, true), (4, true), (7, true), (8, true), (5, false), (6, false), (9, false), (10, true)] TFtF.hm rfl (by kernel_rfl) fun ops25_ w25_ hops25_ hF25_ => ?_
    replace hI := hI.fr0 hF25_
    replace ho5_16 := ho5_16.fr0 hF25_
    replace ht23_ := ht23_.fr0 hF25_
    clear hF25_
    refine HSp (R_move rfl) rfl rfl (HSp (R_fieldAddr fo54_0 rfl) rfl rfl ?_)
    refine HS_loadB (v := vi x22_.Kind_) ag3 rfl ht23_.blk rfl rfl rfl ?_
    refine HSp (R_fieldAddr fo54_1 rfl) rfl rfl ?_
    refine HS_loadB (v := vi x22_.N_) ag3 rfl ht23_.blk rfl rfl rfl ?_
    refine HSp (R_fieldAddr fo54_2 rfl) rfl rfl ?_
    refine HS_loadB (v := vs x22_.Text_) ag9 rfl ht23_.blk rfl rfl rfl ?_
    refine HS_to [8] _ rfl (by rw [hops25_]; kernel_rfl) (R_buildSlice el56 zr3 (by decide) (by decide) rfl rfl) rfl rfl ?_
    rintro _ w26_ ⟨b26_, rfl, hb26_, hB26_, hF26_⟩
    have ho26_ : OwnS w.heap.size 3 Gh.no H16_ _ (some ⟨b26_, 0, none⟩) 2 ([x22_.Kind_, x22_.N_] : List Int) := OwnS.ofBlk hI.st hb26_ hB26_ (all2_sc' _) rfl (by have := hI.size; omega) (by show 2 ≤ maxLen; decide)
    replace hI := hI.fr0 hF26_
    replace ho5_16 := ho5_16.fr0 hF26_
    replace ht23_ := ht23_.fr0 hF26_
    clear hF26_ hB26_
    refine ⟨⟨(ht23_.blk.at_ rfl), trivial⟩, ?_⟩
    refine Exists.elim (ho5_16.lend hI.st (Le.no _)) fun Hb27_0_ hb27_0_ => ?_
    refine Exists.elim (ho26_.lend hb27_0_.1 ((Le.no _).trans hb27_0_.2.1)) fun Hb27_1_ hb27_1_ => ?_
    refine HS_call [8] _ rfl (by rw [hops25_]; kernel_rfl) (C_func bd52 rfl) rfl rfl ?_
    refine (octet_Put_ok (x0 := x5_16) (x1 := ([x22_.Kind_, x22_.N_] : List Int)) hb27_1_.1 (hg.up (hI.le.trans (hb27_0_.2.1.trans hb27_1_.2.1))) ho5_16.cap (hb27_0_.2.2.up hb27_1_.2.1) (Nat.le_refl _) hb27_1_.2.2 h).mono ?_
    have hlo27_0_ho5_16 := ho5_16.lt
    rintro _ w27_ ⟨A27_0, c27_0, r27_0, L27_, H27_, rfl, hI27_, ho27_0, h⟩
    refine Exists.elim (hI.callB (hb27_0_.2.1.trans hb27_1_.2.1) hI27_ (by simp)) fun L270_ h27_ => Exists.elim h27_ fun H270_ h27_ => ?_
    have hz27_ := hI.size
    replace hI := h27_.1
    have u27_ := h27_.2.1
    have hl27_ := h27_.2.2.1
    have hh27_ := h27_.2.2.2
    clear h27_
    replace hs0_1 := hs0_1.up u27_.hh
    replace hll14_ := hll14_.trans u27_.ll
    replace hhh14_ := hhh14_.trans u27_.hh
    replace ho5_16 := ho5_16.up (Le.refl _) u27_ (by simp)
    replace hll16_ := hll16_.trans u27_.ll
    replace hhh16_ := hhh16_.trans u27_.hh
    replace ht23_ := ht23_.up u27_ (by simp)
    have hsp27_0_ho5_16 : ∀ i ∈ bk A27_0 c27_0, i ∉ bk A5_16 c5_16 := sep_new ho27_0.off hlo27_0_ho5_16
    replace ho27_0 := OwnS.backS ho27_0 hz27_ hh27_
    clear hI27_ u27_ hl27_
    refine ⟨_, rfl, ⟨(ht23_.blk.at_ rfl), trivial⟩, ?_⟩
    refine Exists.elim (ho27_0.freeze hI) fun L28_ h28_ => Exists.elim h28_ fun H28_ h28_ => ?_
    replace hI := h28_.1
    have u28_ := h28_.2.1
    have hs28_ := h28_.2.2.1 (Le.no _)
    have hc28_ := ho27_0.cap
    replace hs0_1 := hs0_1.up u28_.hh
    replace hll14_ := hll14_.trans u28_.ll
    replace hhh14_ := hhh14_.trans u28_.hh
    replace ho5_16 := ho5_16.up (Le.refl _) u28_ (sep_sym hsp27_0_ho5_16)
    replace hll16_ := hll16_.trans u28_.ll
    replace hhh16_ := hhh16_.trans u28_.hh
    replace ht23_ := ht23_.up u28_ (ht23_.sep ho27_0 (by decide))
    clear h28_ u28_ ho27_0
    refine HS_call [] _ rfl (by rw [hops25_]; kernel_rfl) (C_func bd53 rfl) rfl rfl ?_
    refine (octet_PutText_ok (x0 := r27_0) (x1 := x22_.Text_) hI.st (hg.up hI.le) hc28_ (hs28_.up hI.sub) h).mono ?_
    have hlo29_0_ho5_16 := ho5_16.lt
    rintro _ w29_ ⟨A29_0, c29_0, r29_0, L29_, H29_, rfl, hI29_, ho29_0, h⟩
    refine Exists.elim (hI.call hI29_ (by simp)) fun L290_ h29_ => ?_
    have hz29_ := hI.size
    replace hI := h29_.1
    have u29_ := h29_.2.1
    have hl29_ := h29_.2.2
    clear h29_
    replace hs0_1 := hs0_1.up u29_.hh
    replace hll14_ := hll14_.trans u29_.ll
    replace hhh14_ := hhh14_.trans u29_.hh
    replace ho5_16 := ho5_16.up (Le.refl _) u29_ (by simp)
    replace hll16_ := hll16_.trans u29_.ll
    replace hhh16_ := hhh16_.trans u29_.hh
    replace ht23_ := ht23_.up u29_ (by simp)
    have hsp29_0_ho5_16 : ∀ i ∈ bk A29_0 c29_0, i ∉ bk A5_16 c5_16 := sep_new ho29_0.off hlo29_0_ho5_16
    replace ho29_0 := OwnS.backS ho29_0 hz29_ (Le.refl _)
    clear hI29_ u29_ hl29_
    refine ⟨_, rfl, trivial, ?_⟩
    refine HSp (R_assign rfl) rfl rfl ?_
    refine HS_nil ?_
    clear hops25_
    refine block_n ?_
    refine then_n (k20 _ _ ?_)
    clear k20 K20
    refine W_keepB [5, 35, 36, 37] fun B_ b_ => ?_
    simp only [e_, Nat.reduceAdd, Nat.reduceBEq] at b_
    subst b_
    refine W_region [51, 37] rfl ?_
    have hk31_ := h.1
    replace h := h.2
    refine Ops_step (R_add rfl rfl (wI hk31_.1 hk31_.2)) rfl rfl (Ops_step (R_move rfl) rfl rfl ?_)
    refine Ops_nil ?_
    refine then_n ?_
    exact h.elim fun m_ h => ⟨m_, _, h.1, rfl, ⟨r29_0, A29_0, c29_0, (x37_16 + 1), _, _, rfl, h.2, hI, hll16_, hhh16_, ho29_0, trivial⟩, ⟨rfl, rfl, trivial⟩⟩
   ·
    replace h := h.2 hc19_
    refine W_exit ?_
    refine then_exit ?_
    clear k18 K18
    refine then_exit ?_
    refine block_exit ?_
    refine then_n ?_
    exact ⟨_, rfl, ⟨x5_16, A5_16, c5_16, _, _, rfl, h, hI, hll14_, hhh14_, ho5_16, trivial⟩, trivial⟩
  ·
   simp only [e_, Nat.reduceAdd, Nat.reduceBEq] at b_
   subst b_
   clear h
   rintro _ w14_ ⟨x5_14, A5_14, c5_14, L14_, H14_, rfl, hJ14_, hI14_, hll14_, hhh14_, ho5_14, -⟩
   replace hI := hI14_
   clear hI14_
   have h := hr14_ x5_14 hJ14_
   clear hr14_ hJ14_
   refine W_seq_k fun K32 k32 => ?_
   refine W_region [52, 2, 3] rfl (Ops_step (R_move rfl) rfl rfl (Ops_step (R_assign rfl) rfl rfl (Ops_step (R_assign rfl) rfl rfl ?_)))
   refine Ops_nil ?_
   refine then_n (k32 _ _ ?_)
   clear k32 K32
   refine W_ret ?_
   refine ⟨_, ⟨_, _, rfl, rfl, ⟨_, _, rfl, rfl, rfl⟩⟩, ?_⟩
   exact ⟨A5_14, c5_14, x5_14, 0, _, _, rfl, hI, (ho5_14.hl (Le.no _)), h⟩

theorem frame_Get_ok {G : Gh} {w : World} (hS : St G w) (hg : GL G) {A0 : Option Addr} {c0 : Nat} {x0 : List UInt8} (hc0 : x0.length ≤ c0) (hs0 : Sl G A0 x0) {Q : api_Msg → Int → Prop} (h : frame_Get x0 Q) : Calls Tryd.prog 32 #[.slice A0 x0.length c0] w fun e w2 => ∃ (l0 : List Value) (r0 : api_Msg) (r1 : Int) (L H : Gh), e = .returned (.tuple #[.agg l0.toArray, vi r1]) ∧ Inv [] G w L H w2 ∧ Rp.cs H r0 l0 ∧ Q r0 r1 := by
 unfold frame_Get at h
 have hI := Inv.start (M := []) hS
 refine calls_W 52 Tryd.func32 rfl Tryd.ntmps32 rfl [.cell 2 25, .tmp 3] rfl ?_
 refine W_seq_k fun K1 k1 => ?_
 refine W_region [2, 3] rfl ?_
 have hI0_ := hI
 refine Ops_to (R_alloc zr25) rfl rfl ?_
 rintro _ w2_ ⟨b2_, rfl, hb2_, hB2_, hF2_⟩
 replace hI := hI.fr0 hF2_
 have ht2_ : Tok G _ b2_ 25 ([vi 0, vi 0, vi 0, vi 0, vi 0, vi 0, vi 0, vi 0, .slice none 0 0]) := ⟨hB2_.to rfl, Out.ge hI0_.st (Nat.le_of_eq hb2_.symm)⟩
 have hge_b2_ : w.heap.size ≤ b2_ := hb2_ ▸ hI0_.size
 clear hB2_ hb2_ hI0_ hF2_
 refine Ops_step (R_assign rfl) rfl rfl ?_
 refine Ops_nil ?_
 refine then_n (k1 _ _ ?_)
 clear k1 K1
 refine W_seq_k fun K3 k3 => ?_
 refine W_region [6, 7, 4] rfl (Ops_step (R_move rfl) rfl rfl ?_)
 refine Ops_call (C_func bd44 rfl) rfl rfl ?_
 refine (octet_Read_ok (x0 := x0) hI.st (hg.up hI.le) hc0 hs0 h).mono ?_
 rintro _ w4_ ⟨d4_0, r4_0, L4_, H4_, rfl, hI4_, hge_d4_0, hr4_0, h⟩
 have hge0_4 := hge_d4_0
 replace hge_d4_0 := Nat.le_trans hI.size hge_d4_0
 refine Exists.elim (hI.call hI4_ (by simp)) fun L40_ h4_ => ?_
 have hz4_ := hI.size
 replace hI := h4_.1
 have u4_ := h4_.2.1
 have hl4_ := h4_.2.2
 clear h4_
 replace ht2_ := ht2_.up u4_ (by simp)
 replace hr4_0 := hr4_0.back hl4_ (Le.refl _)
 obtain ⟨l4_0_, hl4_0_, ht4_0⟩ := hr4_0
 obtain ⟨A4_0_1, c4_0_1, rfl, ⟨hc4_0_1, hs4_0_1⟩⟩ := hl4_0_
 clear hI4_ u4_ hl4_
 refine ⟨_, rfl, ?_⟩
 refine Ops_step (R_assign rfl) rfl rfl ?_
 refine Ops_nil ?_
 refine then_n (k3 _ _ ?_)
 clear k3 K3
 refine W_seq_k fun K5 k5 => ?_
 refine W_region [8, 9, 10, 11, 12, 13, 14, 15, 16, 17, 18, 19, 20, 21, 22, 23, 24, 5, none] rfl (Ops_step (R_move rfl) rfl rfl ?_)
 refine Ops_call (C_func bd62 rfl) rfl rfl ?_
 refine (octet_Reader_Number_ok (x0 := r4_0) hI.st (hg.up hI.le) ⟨_, ⟨A4_0_1, c4_0_1, rfl, ⟨hc4_0_1, (hs4_0_1.up hI.sub)⟩⟩, ht4_0⟩ h).mono ?_
 rintro _ w6_ ⟨r6_0, y6_0, L6_, H6_, rfl, hI6_, hq6_0, h⟩
 refine Exists.elim (hI.call hI6_ (new1 hge_d4_0)) fun L60_ h6_ => ?_
 have hz6_ := hI.size
 replace hI := h6_.1
 have u6_ := h6_.2.1
 have hl6_ := h6_.2.2
 clear h6_
 replace ht2_ := ht2_.up u6_ (ht2_.apart ht4_0 (by decide))
 replace hs4_0_1 := hs4_0_1.up u6_.ll
 clear ht4_0
 obtain ⟨l6_0_, hl6_0_, ht6_0⟩ := hq6_0
 obtain ⟨A6_0_1, c6_0_1, rfl, ⟨hc6_0_1, hs6_0_1⟩⟩ := hl6_0_
 clear hI6_ u6_ hl6_
 refine ⟨_, rfl, ?_⟩
 refine Ops_step (R_move rfl) rfl rfl ?_
 refine Ops_call (C_func bd62 rfl) rfl rfl ?_
 refine (octet_Reader_Number_ok (x0 := y6_0) hI.st (hg.up hI.le) ⟨_, ⟨A6_0_1, c6_0_1, rfl, ⟨hc6_0_1, hs6_0_1⟩⟩, ht6_0⟩ h).mono ?_
 rintro _ w7_ ⟨r7_0, y7_0, L7_, H7_, rfl, hI7_, hq7_0, h⟩
 refine Exists.elim (hI.call hI7_ (new1 hge_d4_0)) fun L70_ h7_ => ?_
 have hz7_ := hI.size
 replace hI := h7_.1
 have u7_ := h7_.2.1
 have hl7_ := h7_.2.2
 clear h7_
 replace ht2_ := ht2_.up u7_ (ht2_.apart ht6_0 (by decide))
 replace hs6_0_1 := hs6_0_1.up u7_.hh
 clear ht6_0
 obtain ⟨l7_0_, hl7_0_, ht7_0⟩ := hq7_0
 obtain ⟨A7_0_1, c7_0_1, rfl, ⟨hc7_0_1, hs7_0_1⟩⟩ := hl7_0_
 clear hI7_ u7_ hl7_
 refine ⟨_, rfl, ?_⟩
 refine Ops_step (R_move rfl) rfl rfl ?_
 refine Ops_call (C_func bd62 rfl) rfl rfl ?_
 refine (octet_Reader_Number_ok (x0 := y7_0) hI.st (hg.up hI.le) ⟨_, ⟨A7_0_1, c7_0_1, rfl, ⟨hc7_0_1, hs7_0_1⟩⟩, ht7_0⟩ h).mono ?_
 rintro _ w8_ ⟨r8_0, y8_0, L8_, H8_, rfl, hI8_, hq8_0, h⟩
 refine Exists.elim (hI.call hI8_ (new1 hge_d4_0)) fun L80_ h8_ => ?_
 have hz8_ := hI.size
 replace hI := h8_.1
 have u8_ := h8_.2.1
 have hl8_ := h8_.2.2
 clear h8_
 replace ht2_ := ht2_.up u8_ (ht2_.apart ht7_0 (by decide))
 replace hs7_0_1 := hs7_0_1.up u8_.hh
 clear ht7_0
 obtain ⟨l8_0_, hl8_0_, ht8_0⟩ := hq8_0
 obtain ⟨A8_0_1, c8_0_1, rfl, ⟨hc8_0_1, hs8_0_1⟩⟩ := hl8_0_
 clear hI8_ u8_ hl8_
 refine ⟨_, rfl, ?_⟩
 refine Ops_step (R_move rfl) rfl rfl ?_
 refine Ops_call (C_func bd62 rfl) rfl rfl ?_
 refine (octet_Reader_Number_ok (x0 := y8_0) hI.st (hg.up hI.le) ⟨_, ⟨A8_0_1, c8_0_1, rfl, ⟨hc8_0_1, hs8_0_1⟩⟩, ht8_0⟩ h).mono ?_
 rintro _ w9_ ⟨r9_0, y9_0, L9_, H9_, rfl, hI9_, hq9_0, h⟩
 refine Exists.elim (hI.call hI9_ (new1 hge_d4_0)) fun L90_ h9_ => ?_
 have hz9_ := hI.size
 replace hI := h9_.1
 have u9_ := h9_.2.1
 have hl9_ := h9_.2.2
 clear h9_
 replace ht2_ := ht2_.up u9_ (ht2_.apart ht8_0 (by decide))
 replace hs8_0_1 := hs8_0_1.up u9_.hh
 clear ht8_0
 obtain ⟨l9_0_, hl9_0_, ht9_0⟩ := hq9_0
 obtain ⟨A9_0_1, c9_0_1, rfl, ⟨hc9_0_1, hs9_0_1⟩⟩ := hl9_0_
 clear hI9_ u9_ hl9_
 refine ⟨_, rfl, ?_⟩
 refine Ops_step (R_move rfl) rfl rfl ?_
 refine Ops_call (C_func bd62 rfl) rfl rfl ?_
 refine (octet_Reader_Number_ok (x0 := y9_0) hI.st (hg.up hI.le) ⟨_, ⟨A9_0_1, c9_0_1, rfl, ⟨hc9_0_1, hs9_0_1⟩⟩, ht9_0⟩ h).mono ?_
 rintro _ w10_ ⟨r10_0, y10_0, L10_, H10_, rfl, hI10_, hq10_0, h⟩
 refine Exists.elim (hI.call hI10_ (new1 hge_d4_0)) fun L100_ h10_ => ?_
 have hz10_ := hI.size
 replace hI := h10_.1
 have u10_ := h10_.2.1
 have hl10_ := h10_.2.2
 clear h10_
 replace ht2_ := ht2_.up u10_ (ht2_.apart ht9_0 (by decide))
 replace hs9_0_1 := hs9_0_1.up u10_.hh
 clear ht9_0
 obtain ⟨l10_0_, hl10_0_, ht10_0⟩ := hq10_0
 obtain ⟨A10_0_1, c10_0_1, rfl, ⟨hc10_0_1, hs10_0_1⟩⟩ := hl10_0_
 clear hI10_ u10_ hl10_
 refine ⟨_, rfl, ?_⟩
 refine Ops_step (R_move rfl) rfl rfl ?_
 refine Ops_call (C_func bd62 rfl) rfl rfl ?_
 refine (octet_Reader_Number_ok (x0 := y10_0) hI.st (hg.up hI.le) ⟨_, ⟨A10_0_1, c10_0_1, rfl, ⟨hc10_0_1, hs10_0_1⟩⟩, ht10_0⟩ h).mono ?_
 rintro _ w11_ ⟨r11_0, y11_0, L11_, H11_, rfl, hI11_, hq11_0, h⟩
 refine Exists.elim (hI.call hI11_ (new1 hge_d4_0)) fun L110_ h11_ => ?_
 have hz11_ := hI.size
 replace hI := h11_.1
 have u11_ := h11_.2.1
 have hl11_ := h11_.2.2
 clear h11_
 replace ht2_ := ht2_.up u11_ (ht2_.apart ht10_0 (by decide))
 replace hs10_0_1 := hs10_0_1.up u11_.hh
 clear ht10_0
 obtain ⟨l11_0_, hl11_0_, ht11_0⟩ := hq11_0
 obtain ⟨A11_0_1, c11_0_1, rfl, ⟨hc11_0_1, hs11_0_1⟩⟩ := hl11_0_
 clear hI11_ u11_ hl11_
 refine ⟨_, rfl, ?_⟩
 refine Ops_step (R_move rfl) rfl rfl ?_
 refine Ops_call (C_func bd62 rfl) rfl rfl ?_
 refine (octet_Reader_Number_ok (x0 := y11_0) hI.st (hg.up hI.le) ⟨_, ⟨A11_0_1, c11_0_1, rfl, ⟨hc11_0_1, hs11_0_1⟩⟩, ht11_0⟩ h).mono ?_
 rintro _ w12_ ⟨r12_0, y12_0, L12_, H12_, rfl, hI12_, hq12_0, h⟩
 refine Exists.elim (hI.call hI12_ (new1 hge_d4_0)) fun L120_ h12_ => ?_
 have hz12_ := hI.size
 replace hI := h12_.1
 have u12_ := h12_.2.1
 have hl12_ := h12_.2.2
 clear h12_
 replace ht2_ := ht2_.up u12_ (ht2_.apart ht11_0 (by decide))
 replace hs11_0_1 := hs11_0_1.up u12_.hh
 clear ht11_0
 obtain ⟨l12_0_, hl12_0_, ht12_0⟩ := hq12_0
 obtain ⟨A12_0_1, c12_0_1, rfl, ⟨hc12_0_1, hs12_0_1⟩⟩ := hl12_0_
 clear hI12_ u12_ hl12_
 refine ⟨_, rfl, ?_⟩
 refine Ops_step (R_move rfl) rfl rfl ?_
 refine Ops_call (C_func bd45 rfl) rfl rfl ?_
 refine (octet_Reader_Within_ok (x0 := y12_0) (x1 := 0) (x2 := 1000) hI.st (hg.up hI.le) ⟨_, ⟨A12_0_1, c12_0_1, rfl, ⟨hc12_0_1, hs12_0_1⟩⟩, ht12_0⟩ h).mono ?_
 rintro _ w13_ ⟨r13_0, y13_0, L13_, H13_, rfl, hI13_, hq13_0, h⟩
 refine Exists.elim (hI.call hI13_ (new1 hge_d4_0)) fun L130_ h13_ => ?_
 have hz13_ := hI.size
 replace hI := h13_.1
 have u13_ := h13_.2.1
 have hl13_ := h13_.2.2
 clear h13_
 replace ht2_ := ht2_.up u13_ (ht2_.apart ht12_0 (by decide))
 replace hs12_0_1 := hs12_0_1.up u13_.hh
 clear ht12_0
 obtain ⟨l13_0_, hl13_0_, ht13_0⟩ := hq13_0
 obtain ⟨A13_0_1, c13_0_1, rfl, ⟨hc13_0_1, hs13_0_1⟩⟩ := hl13_0_
 clear hI13_ u13_ hl13_
 refine ⟨_, rfl, ?_⟩
 refine Ops_step (R_build (pl := [(0, 1), (1, 1), (2, 1), (3, 1), (4, 1), (5, 1), (6, 1), (7, 1)]) (cs := [vi r6_0, vi r7_0, vi r8_0, vi r9_0, vi r10_0, vi r11_0, vi r12_0, vi r13_0, .slice none 0 0]) zr25 pl25 rfl rfl rfl) rfl rfl ?_
 have hlo14_b2_ := ht2_.blk.lt
 have hI0_ := hI
 refine Ops_to (R_alloc zr25) rfl rfl ?_
 rintro _ w14_ ⟨b14_, rfl, hb14_, hB14_, hF14_⟩
 replace hI := hI.fr0 hF14_
 replace ht2_ := ht2_.fr0 hF14_
 replace ht13_0 := ht13_0.fr0 hF14_
 have ht14_ : Tok H13_ _ b14_ 25 ([vi 0, vi 0, vi 0, vi 0, vi 0, vi 0, vi 0, vi 0, .slice none 0 0]) := ⟨hB14_.to rfl, Out.ge hI0_.st (Nat.le_of_eq hb14_.symm)⟩
 have hge_b14_ : w.heap.size ≤ b14_ := hb14_ ▸ hI0_.size
 have hne14_b2_ : b2_ ≠ b14_ := fun e_ => absurd hlo14_b2_ (by omega)
 clear hB14_ hb14_ hI0_ hF14_
 refine Ops_to0 (R_storeN sz25 rfl rfl rfl ht14_.blk (Nat.le_of_ble_eq_true rfl) rfl) rfl ?_
 rintro _ w15_ ⟨hB15_, hF15_⟩
 replace hI := hI.tok hF15_ (out1 ht14_.out) (new1 hge_b14_)
 replace ht2_ := ht2_.fr hF15_ (ne1 hne14_b2_)
 replace ht13_0 := ht13_0.fr hF15_ (ht13_0.apart ht14_ (by decide))
 replace ht14_ : Tok H13_ _ b14_ 25 ([vi r6_0, vi r7_0, vi r8_0, vi r9_0, vi r10_0, vi r11_0, vi r12_0, vi r13_0, .slice none 0 0]) := ⟨hB15_, ht14_.out⟩
 clear hF15_ hB15_
 refine Ops_nil ?_
 refine then_n (k5 _ _ ?_)
 clear k5 K5
 refine W_keepB [2, 4, 5] fun B_ b_ => ?_
 simp only [e_, Nat.reduceAdd, Nat.reduceBEq] at b_
 subst b_
 refine ex_ h fun J17_ hr17_ h => ?_
 refine W_seq_join [2, 4, 5] [] (fun vals_ w2 => ∃ (yd4_0_17 : octet_Reader) (yb14__17 : api_Msg) (Ab14__17_8 : Option Addr) (cb14__17_8 : Nat) (L H : Gh), vals_ = [] ∧ J17_ yd4_0_17 yb14__17 ∧ Inv [] G w L H w2 ∧ Le L130_ L ∧ Le H13_ H ∧ Ob 88 H H w2 d4_0 yd4_0_17 ∧ Tok H w2 b14_ 25 [vi yb14__17.Kind_, vi yb14__17.Who_, vi yb14__17.Seq_, vi yb14__17.Rev_, vi yb14__17.At_, vi yb14__17.N_, vi yb14__17.Target_, vi yb14__17.Err_, .slice Ab14__17_8 yb14__17.Edit_.length cb14__17_8] ∧ OwnS w.heap.size 54 H H w2 Ab14__17_8 cb14__17_8 yb14__17.Edit_ ∧ Tok H w2 b2_ 25 ([vi 0, vi 0, vi 0, vi 0, vi 0, vi 0, vi 0, vi 0, .slice none 0 0]) ∧ True) (fun B_ b_ => ?_) (fun B_ b_ => ?_)
 ·
  simp only [e_, Nat.reduceAdd, Nat.reduceBEq] at b_
  subst b_
  clear hr17_
  have hll17_ := Le.refl L130_
  have hhh17_ := Le.refl H13_
  refine W_seq_k fun K18 k18 => ?_
  refine W_region [25, 26, 27] rfl (Ops_step (R_move rfl) rfl rfl ?_)
  refine Ops_call (C_func bd45 rfl) rfl rfl ?_
  refine (octet_Reader_Within_ok (x0 := y13_0) (x1 := 0) (x2 := 400) hI.st (hg.up hI.le) ⟨_, ⟨A13_0_1, c13_0_1, rfl, ⟨hc13_0_1, hs13_0_1⟩⟩, ht13_0⟩ h).mono ?_
  rintro _ w19_ ⟨r19_0, y19_0, L19_, H19_, rfl, hI19_, hq19_0, h⟩
  refine Exists.elim (hI.call hI19_ (new1 hge_d4_0)) fun L190_ h19_ => ?_
  have hz19_ := hI.size
  replace hI := h19_.1
  have u19_ := h19_.2.1
  have hl19_ := h19_.2.2
  clear h19_
  replace ht2_ := ht2_.up u19_ (ht2_.apart ht13_0 (by decide))
  replace hs13_0_1 := hs13_0_1.up u19_.hh
  replace ht14_ := ht14_.up u19_ (ht14_.apart ht13_0 (by decide))
  replace hll17_ := hll17_.trans u19_.ll
  replace hhh17_ := hhh17_.trans u19_.hh
  clear ht13_0
  obtain ⟨l19_0_, hl19_0_, ht19_0⟩ := hq19_0
  obtain ⟨A19_0_1, c19_0_1, rfl, ⟨hc19_0_1, hs19_0_1⟩⟩ := hl19_0_
  clear hI19_ u19_ hl19_
  refine ⟨_, rfl, ?_⟩
  refine Ops_step (R_move rfl) rfl rfl ?_
  refine Ops_nil ?_
  refine then_n (k18 _ _ ?_)
  clear k18 K18
  refine W_block ?_
  refine Exists.elim h fun I20_ h => Exists.elim h fun n20_ h => ?_
  have h0_ := h.1
  have hs20_ := h.2
  clear h
  refine W_loopB [2, 4, 5, 26] [27] (fun m vals_ w2 => ∃ (x27_20 : Int) (yb14__20 : api_Msg) (Ab14__20_8 : Option Addr) (cb14__20_8 : Nat) (yd4_0_20 : octet_Reader) (L H : Gh), vals_ = [vi x27_20] ∧ I20_ m x27_20 yb14__20 yd4_0_20 ∧ Inv [] G w L H w2 ∧ Le L190_ L ∧ Le H19_ H ∧ Tok H w2 b14_ 25 [vi yb14__20.Kind_, vi yb14__20.Who_, vi yb14__20.Seq_, vi yb14__20.Rev_, vi yb14__20.At_, vi yb14__20.N_, vi yb14__20.Target_, vi yb14__20.Err_, .slice Ab14__20_8 yb14__20.Edit_.length cb14__20_8] ∧ OwnS w.heap.size 54 H H w2 Ab14__20_8 cb14__20_8 yb14__20.Edit_ ∧ Ob 88 H H w2 d4_0 yd4_0_20 ∧ Tok H w2 b2_ 25 ([vi 0, vi 0, vi 0, vi 0, vi 0, vi 0, vi 0, vi 0, .slice none 0 0]) ∧ True) n20_ _ rfl ⟨0, (api_Msg.mk r6_0 r7_0 r8_0 r9_0 r10_0 r11_0 r12_0 r13_0 []), none, 0, y19_0, _, _, rfl, h0_, hI, Le.refl _, Le.refl _, ht14_, OwnS.nil, ⟨_, ⟨A19_0_1, c19_0_1, rfl, ⟨hc19_0_1, hs19_0_1⟩⟩, ht19_0⟩, ht2_, trivial⟩ fun B_ b_ => ?_
  clear h0_
  simp only [e_, Nat.reduceAdd, Nat.reduceBEq] at b_
  subst b_
  clear ht2_
  rintro m20_ _ w20_ ⟨x27_20, yb14__20, Ab14__20_8, cb14__20_8, yd4_0_20, L20_, H20_, rfl, hJ20_, hI20_, hll20_, hhh20_, htb14__20, hob14__20_8, hqd4_0_20, ht2_, -⟩
  replace hI := hI20_
  clear hI20_
  have h := hs20_ m20_ x27_20 yb14__20 yd4_0_20 hJ20_
  clear hs20_ hJ20_
  replace hll17_ := hll17_.trans hll20_
  replace hhh17_ := hhh17_.trans hhh20_
  replace hs19_0_1 := hs19_0_1.up hhh20_
  obtain ⟨ld4_0_20_, hld4_0_20_, htd4_0_20⟩ := hqd4_0_20
  obtain ⟨Ad4_0_20_1, cd4_0_20_1, rfl, ⟨hcd4_0_20_1, hsd4_0_20_1⟩⟩ := hld4_0_20_
  refine W_seq_k fun K21 k21 => ?_
  refine W_region [28] rfl (Ops_step (R_lss rfl rfl) rfl rfl ?_)
  refine Ops_nil ?_
  refine then_n (k21 _ _ ?_)
  clear k21 K21
  refine W_seq_k fun K22 k22 => ?_
  refine W_if rfl (fun hc23_ => ?_) (fun hc23_ => ?_)
  ·
   replace h := h.1 hc23_
   refine W_skip ?_
   refine then_n (k22 _ _ ?_)
   clear k22 K22
   refine W_seq_k fun K24 k24 => ?_
   refine W_block ?_
   refine W_drawF [29, 30, 31, 32, 33, 34, 35, 36, 37, 38, 39, 40, none] [(0, true), (1, true), (2, true), (4, true), (6, true), (3, false), (5, false), (7, false), (8, true), (9, false), (10, false), (11, true), (12, false)] TFtF.hm rfl (by kernel_rfl) fun ops25_ w25_ hops25_ hF25_ => ?_
   replace hI := hI.fr0 hF25_
   replace ht2_ := ht2_.fr0 hF25_
   replace htb14__20 := htb14__20.fr0 hF25_
   replace hob14__20_8 := hob14__20_8.fr0 hF25_
   replace htd4_0_20 := htd4_0_20.fr0 hF25_
   clear hF25_
   refine HSp (R_fieldAddr fo25_8 rfl) rfl rfl ?_
   refine HS_loadB (v := .slice Ab14__20_8 yb14__20.Edit_.length cb14__20_8) ag23 rfl htb14__20.blk rfl rfl rfl ?_
   refine HSp (R_move rfl) rfl rfl (HSp (R_move rfl) rfl rfl (HSp (R_move rfl) rfl rfl ?_))
   refine HS_call [1] _ rfl (by rw [hops25_]; kernel_rfl) (C_func bd62 rfl) rfl rfl ?_
   refine (octet_Reader_Number_ok (x0 := yd4_0_20) hI.st (hg.up hI.le) ⟨_, ⟨Ad4_0_20_1, cd4_0_20_1, rfl, ⟨hcd4_0_20_1, hsd4_0_20_1⟩⟩, htd4_0_20⟩ h).mono ?_
   rintro _ w26_ ⟨r26_0, y26_0, L26_, H26_, rfl, hI26_, hq26_0, h⟩
   refine Exists.elim (hI.call hI26_ (new1 hge_d4_0)) fun L260_ h26_ => ?_
   have hz26_ := hI.size
   replace hI := h26_.1
   have u26_ := h26_.2.1
   have hl26_ := h26_.2.2
   clear h26_
   replace hll17_ := hll17_.trans u26_.ll
   replace hhh17_ := hhh17_.trans u26_.hh
   replace ht2_ := ht2_.up u26_ (ht2_.apart htd4_0_20 (by decide))
   replace htb14__20 := htb14__20.up u26_ (htb14__20.apart htd4_0_20 (by decide))
   replace hob14__20_8 := hob14__20_8.up u26_.hh u26_ (hob14__20_8.ne htd4_0_20.blk (by decide))
   replace hsd4_0_20_1 := hsd4_0_20_1.up u26_.hh
   replace hll20_ := hll20_.trans u26_.ll
   replace hhh20_ := hhh20_.trans u26_.hh
   clear htd4_0_20
   obtain ⟨l26_0_, hl26_0_, ht26_0⟩ := hq26_0
   obtain ⟨A26_0_1, c26_0_1, rfl, ⟨hc26_0_1, hs26_0_1⟩⟩ := hl26_0_
   clear hI26_ u26_ hl26_
   refine ⟨_, rfl, ⟨(htb14__20.blk.at_ rfl), trivial⟩, ?_⟩
   refine HS_call [1] _ rfl (by rw [hops25_]; kernel_rfl) (C_func bd62 rfl) rfl rfl ?_
   refine (octet_Reader_Number_ok (x0 := y26_0) hI.st (hg.up hI.le) ⟨_, ⟨A26_0_1, c26_0_1, rfl, ⟨hc26_0_1, hs26_0_1⟩⟩, ht26_0⟩ h).mono ?_
   rintro _ w27_ ⟨r27_0, y27_0, L27_, H27_, rfl, hI27_, hq27_0, h⟩
   refine Exists.elim (hI.call hI27_ (new1 hge_d4_0)) fun L270_ h27_ => ?_
   have hz27_ := hI.size
   replace hI := h27_.1
   have u27_ := h27_.2.1
   have hl27_ := h27_.2.2
   clear h27_
   replace hll17_ := hll17_.trans u27_.ll
   replace hhh17_ := hhh17_.trans u27_.hh
   replace ht2_ := ht2_.up u27_ (ht2_.apart ht26_0 (by decide))
   replace htb14__20 := htb14__20.up u27_ (htb14__20.apart ht26_0 (by decide))
   replace hob14__20_8 := hob14__20_8.up u27_.hh u27_ (hob14__20_8.ne ht26_0.blk (by decide))
   replace hll20_ := hll20_.trans u27_.ll
   replace hhh20_ := hhh20_.trans u27_.hh
   replace hs26_0_1 := hs26_0_1.up u27_.hh
   clear ht26_0
   obtain ⟨l27_0_, hl27_0_, ht27_0⟩ := hq27_0
   obtain ⟨A27_0_1, c27_0_1, rfl, ⟨hc27_0_1, hs27_0_1⟩⟩ := hl27_0_
   clear hI27_ u27_ hl27_
   refine ⟨_, rfl, ⟨(htb14__20.blk.at_ rfl), trivial⟩, ?_⟩
   refine HS_call [1] _ rfl (by rw [hops25_]; kernel_rfl) (C_func bd63 rfl) rfl rfl ?_
   refine (octet_Reader_Text_ok (x0 := y27_0) (x1 := 256) hI.st (hg.up hI.le) ⟨_, ⟨A27_0_1, c27_0_1, rfl, ⟨hc27_0_1, hs27_0_1⟩⟩, ht27_0⟩ h).mono ?_
   rintro _ w28_ ⟨r28_0, y28_0, L28_, H28_, rfl, hI28_, hq28_0, h⟩
   refine Exists.elim (hI.call hI28_ (new1 hge_d4_0)) fun L280_ h28_ => ?_
   have hz28_ := hI.size
   replace hI := h28_.1
   have u28_ := h28_.2.1
   have hl28_ := h28_.2.2
   clear h28_
   replace hll17_ := hll17_.trans u28_.ll
   replace hhh17_ := hhh17_.trans u28_.hh
   replace ht2_ := ht2_.up u28_ (ht2_.apart ht27_0 (by decide))
   replace htb14__20 := htb14__20.up u28_ (htb14__20.apart ht27_0 (by decide))
   replace hob14__20_8 := hob14__20_8.up u28_.hh u28_ (hob14__20_8.ne ht27_0.blk (by decide))
   replace hll20_ := hll20_.trans u28_.ll
   replace hhh20_ := hhh20_.trans u28_.hh
   replace hs27_0_1 := hs27_0_1.up u28_.hh
   clear ht27_0
   obtain ⟨l28_0_, hl28_0_, ht28_0⟩ := hq28_0
   obtain ⟨A28_0_1, c28_0_1, rfl, ⟨hc28_0_1, hs28_0_1⟩⟩ := hl28_0_
   clear hI28_ u28_ hl28_
   refine ⟨_, rfl, ⟨(htb14__20.blk.at_ rfl), trivial⟩, ?_⟩
   refine HSp (R_build (pl := [(0, 1), (1, 1), (2, 1)]) (cs := [vi r26_0, vi r27_0, vs r28_0]) zr54 pl54 rfl rfl rfl) rfl rfl ?_
   have hlo29_hob14__20_8 := hob14__20_8.lt
   refine HS_to [1] _ rfl (by rw [hops25_]; kernel_rfl) (R_buildSlice el23 zr54 (by decide) (by decide) rfl rfl) rfl rfl ?_
   rintro _ w29_ ⟨b29_, rfl, hb29_, hB29_, hF29_⟩
   have ho29_ : OwnS w.heap.size 54 L280_ H28_ _ (some ⟨b29_, 0, none⟩) 1 ([(api_Part.mk r26_0 r27_0 r28_0)] : List api_Part) := OwnS.ofBlk (css := [[vi r26_0, vi r27_0, vs r28_0]]) hI.st hb29_ hB29_ (.cons rfl .nil) rfl (by have := hI.size; omega) (by show 1 ≤ maxLen; decide)
   replace hI := hI.fr0 hF29_
   replace ht2_ := ht2_.fr0 hF29_
   replace htb14__20 := htb14__20.fr0 hF29_
   replace hob14__20_8 := hob14__20_8.fr0 hF29_
   replace ht28_0 := ht28_0.fr0 hF29_
   clear hF29_ hB29_
   have hsp29_hob14__20_8 : ∀ i ∈ bk (some ⟨b29_, 0, none⟩) 1, i ∉ bk Ab14__20_8 cb14__20_8 := sep_new (fun i_ hi_ => by have := (bk_of hi_).1; simp only [blkOf, List.mem_singleton] at this; omega) hlo29_hob14__20_8
   refine ⟨⟨(htb14__20.blk.at_ rfl), trivial⟩, ?_⟩
   have hk31_ := h.1
   replace h := h.2
   refine HS_to [] _ rfl (by rw [hops25_]; kernel_rfl) (X_append (α := api_Part) (xs := yb14__20.Edit_) (ys := ([(api_Part.mk r26_0 r27_0 r28_0)] : List api_Part)) el23 rfl rfl hob14__20_8 ((Srcs.ofOwn Tryd.underlying23 ho29_ (by decide)).up hI.sub) hI.st hk31_ (by decide) hI.size) rfl rfl ?_
   rintro _ w30_ ⟨A30_, c30_, rfl, ho30_, hF30_, hbk30_⟩
   clear hbk30_
   replace hI := hI.tok hF30_ hob14__20_8.out (hob14__20_8.new (Nat.le_refl _))
   replace ht2_ := ht2_.fr hF30_ (ht2_.sep hob14__20_8 (by decide))
   replace htb14__20 := htb14__20.fr hF30_ (htb14__20.sep hob14__20_8 (by decide))
   replace ht28_0 := ht28_0.fr hF30_ (ht28_0.sep hob14__20_8 (by decide))
   clear hF30_ hob14__20_8
   refine ⟨trivial, ?_⟩
   refine HSp (R_fieldAddr fo25_8 rfl) rfl rfl ?_
   refine HS_to0 [] _ rfl (by rw [hops25_]; kernel_rfl) (R_store sz23 rfl rfl htb14__20.blk (by show 8 < 9; decide) rfl) rfl ?_
   rintro _ w32_ ⟨hB32_, hF32_⟩
   replace hI := hI.tok hF32_ (out1 htb14__20.out) (new1 hge_b14_)
   replace ht2_ := ht2_.fr hF32_ (ne1 hne14_b2_)
   replace ht28_0 := ht28_0.fr hF32_ (ht28_0.apart htb14__20 (by decide))
   replace ho30_ := ho30_.fr hF32_ (ho30_.ne htb14__20.blk (by decide))
   replace htb14__20 : Tok H28_ _ b14_ 25 ([vi yb14__20.Kind_, vi yb14__20.Who_, vi yb14__20.Seq_, vi yb14__20.Rev_, vi yb14__20.At_, vi yb14__20.N_, vi yb14__20.Target_, vi yb14__20.Err_, .slice A30_ ((yb14__20.Edit_ ++ ([(api_Part.mk r26_0 r27_0 r28_0)] : List api_Part)).length) c30_]) := ⟨hB32_, htb14__20.out⟩
   clear hF32_ hB32_
   refine ⟨trivial, ?_⟩
   refine HS_nil ?_
   clear hops25_
   refine block_n ?_
   refine then_n (k24 _ _ ?_)
   clear k24 K24
   refine W_keepB [2, 4, 5, 26, 27] fun B_ b_ => ?_
   simp only [e_, Nat.reduceAdd, Nat.reduceBEq] at b_
   subst b_
   refine W_region [41, 27] rfl ?_
   have hk34_ := h.1
   replace h := h.2
   refine Ops_step (R_add rfl rfl (wI hk34_.1 hk34_.2)) rfl rfl (Ops_step (R_move rfl) rfl rfl ?_)
   refine Ops_nil ?_
   refine then_n ?_
   exact h.elim fun m_ h => ⟨m_, _, h.1, rfl, ⟨(x27_20 + 1), (api_Msg.mk yb14__20.Kind_ yb14__20.Who_ yb14__20.Seq_ yb14__20.Rev_ yb14__20.At_ yb14__20.N_ yb14__20.Target_ yb14__20.Err_ (yb14__20.Edit_ ++ ([(api_Part.mk r26_0 r27_0 r28_0)] : List api_Part))), A30_, c30_, y28_0, _, _, rfl, h.2, hI, hll20_, hhh20_, htb14__20, ho30_, ⟨_, ⟨A28_0_1, c28_0_1, rfl, ⟨hc28_0_1, hs28_0_1⟩⟩, ht28_0⟩, ht2_, trivial⟩, ⟨rfl, rfl, rfl, rfl, trivial⟩⟩
  ·
   replace h := h.2 hc23_
   refine W_exit ?_
   refine then_exit ?_
   clear k22 K22
   refine then_exit ?_
   refine block_exit ?_
   refine then_n ?_
   exact ⟨_, rfl, ⟨yd4_0_20, (api_Msg.mk yb14__20.Kind_ yb14__20.Who_ yb14__20.Seq_ yb14__20.Rev_ yb14__20.At_ yb14__20.N_ yb14__20.Target_ yb14__20.Err_ yb14__20.Edit_), Ab14__20_8, cb14__20_8, _, _, rfl, h, hI, hll17_, hhh17_, ⟨_, ⟨Ad4_0_20_1, cd4_0_20_1, rfl, ⟨hcd4_0_20_1, hsd4_0_20_1⟩⟩, htd4_0_20⟩, htb14__20, hob14__20_8, ht2_, trivial⟩, ⟨rfl, rfl, rfl, trivial⟩⟩
 ·
  simp only [e_, Nat.reduceAdd, Nat.reduceBEq] at b_
  subst b_
  clear h
  clear ht2_
  rintro _ w17_ ⟨yd4_0_17, yb14__17, Ab14__17_8, cb14__17_8, L17_, H17_, rfl, hJ17_, hI17_, hll17_, hhh17_, hqd4_0_17, htb14__17, hob14__17_8, ht2_, -⟩
  replace hI := hI17_
  clear hI17_
  have h := hr17_ yd4_0_17 yb14__17 hJ17_
  clear hr17_ hJ17_
  replace hs13_0_1 := hs13_0_1.up hhh17_
  obtain ⟨ld4_0_17_, hld4_0_17_, htd4_0_17⟩ := hqd4_0_17
  obtain ⟨Ad4_0_17_1, cd4_0_17_1, rfl, ⟨hcd4_0_17_1, hsd4_0_17_1⟩⟩ := hld4_0_17_
  refine W_seq_k fun K35 k35 => ?_
  refine ex_ h fun J36_ hr36_ h => ?_
  refine W_seq_join [2, 5] [49] (fun vals_ w2 => ∃ (x49_36 : Bool) (yb2__36 : api_Msg) (Ab2__36_8 : Option Addr) (cb2__36_8 : Nat) (yb14__36 : api_Msg) (L H : Gh), vals_ = [.bool x49_36] ∧ J36_ x49_36 yb2__36 yb14__36 ∧ Inv [] G w L H w2 ∧ Le L17_ L ∧ Le H17_ H ∧ Tok H w2 b2_ 25 [vi yb2__36.Kind_, vi yb2__36.Who_, vi yb2__36.Seq_, vi yb2__36.Rev_, vi yb2__36.At_, vi yb2__36.N_, vi yb2__36.Target_, vi yb2__36.Err_, .slice Ab2__36_8 yb2__36.Edit_.length cb2__36_8] ∧ OwnS w.heap.size 54 H H w2 Ab2__36_8 cb2__36_8 yb2__36.Edit_ ∧ Ob 25 H H w2 b14_ yb14__36 ∧ True) (fun B_ b_ => ?_) (fun B_ b_ => ?_)
  ·
   simp only [e_, Nat.reduceAdd, Nat.reduceBEq] at b_
   subst b_
   clear hr36_
   have hll36_ := Le.refl L17_
   have hhh36_ := Le.refl H17_
   refine W_region [42, 43, 44, 45, 46, 47, 48, 49] rfl (Ops_step (R_move rfl) rfl rfl ?_)
   refine Ops_call (C_func bd64 rfl) rfl rfl ?_
   refine (octet_Reader_End_ok (x0 := yd4_0_17) hI.st (hg.up hI.le) ⟨_, ⟨Ad4_0_17_1, cd4_0_17_1, rfl, ⟨hcd4_0_17_1, hsd4_0_17_1⟩⟩, htd4_0_17⟩ h).mono ?_
   rintro _ w37_ ⟨r37_0, L37_, H37_, rfl, hI37_, h⟩
   refine Exists.elim (hI.call hI37_ (by simp)) fun L370_ h37_ => ?_
   have hz37_ := hI.size
   replace hI := h37_.1
   have u37_ := h37_.2.1
   have hl37_ := h37_.2.2
   clear h37_
   replace ht2_ := ht2_.up u37_ (by simp)
   replace htb14__17 := htb14__17.up u37_ (by simp)
   replace hob14__17_8 := hob14__17_8.up u37_.hh u37_ (by simp)
   replace hll36_ := hll36_.trans u37_.ll
   replace hhh36_ := hhh36_.trans u37_.hh
   clear hI37_ u37_ hl37_
   refine ⟨_, rfl, ?_⟩
   refine Ops_step (R_neq rfl rfl) rfl rfl (Ops_step (R_move rfl) rfl rfl ?_)
   refine Ops_split 45 rfl (fun hg38_ => ?_) (fun hg38_ => ?_)
   ·
    replace h := h.1 hg38_
    refine Ops_pass rfl rfl (Ops_pass rfl rfl (Ops_pass rfl rfl (Ops_step (R_pick_true rfl rfl) rfl rfl ?_)))
    refine Ops_nil ?_
    refine Exists.elim (hob14__17_8.freeze hI) fun L39_ h39_ => Exists.elim h39_ fun H39_ h39_ => ?_
    replace hI := h39_.1
    have u39_ := h39_.2.1
    have hs39_ := h39_.2.2.2 (Le.refl _)
    have hc39_ := hob14__17_8.cap
    replace ht2_ := ht2_.up u39_ (ht2_.sep hob14__17_8 (by decide))
    replace htb14__17 := htb14__17.up u39_ (htb14__17.sep hob14__17_8 (by decide))
    replace hll36_ := hll36_.trans u39_.ll
    replace hhh36_ := hhh36_.trans u39_.hh
    clear h39_ u39_ hob14__17_8
    refine then_n ?_
    exact ⟨_, rfl, ⟨true, (api_Msg.mk 0 0 0 0 0 0 0 0 []), none, 0, (api_Msg.mk yb14__17.Kind_ yb14__17.Who_ yb14__17.Seq_ yb14__17.Rev_ yb14__17.At_ yb14__17.N_ yb14__17.Target_ yb14__17.Err_ yb14__17.Edit_), _, _, rfl, h, hI, hll36_, hhh36_, ht2_, OwnS.nil, ⟨_, ⟨Ab14__17_8, cb14__17_8, rfl, ⟨hc39_, hs39_⟩⟩, htb14__17⟩, trivial⟩, ⟨rfl, rfl, trivial⟩⟩
   ·
    replace h := h.2 hg38_
    refine Exists.elim (hob14__17_8.freeze hI) fun L40_ h40_ => Exists.elim h40_ fun H40_ h40_ => ?_
    replace hI := h40_.1
    have u40_ := h40_.2.1
    have hs40_ := h40_.2.2.2 (Le.refl _)
    have hc40_ := hob14__17_8.cap
    replace ht2_ := ht2_.up u40_ (ht2_.sep hob14__17_8 (by decide))
    replace htb14__17 := htb14__17.up u40_ (htb14__17.sep hob14__17_8 (by decide))
    replace hll36_ := hll36_.trans u40_.ll
    replace hhh36_ := hhh36_.trans u40_.hh
    clear h40_ u40_ hob14__17_8
    refine Ops_step (R_loadN ag25 sz25 rfl htb14__17.blk (Nat.le_of_ble_eq_true rfl)) rfl rfl ?_
    refine Ops_call (C_func bd14 rfl) rfl rfl ?_
    refine (frame_Check_ok (x0 := (api_Msg.mk yb14__17.Kind_ yb14__17.Who_ yb14__17.Seq_ yb14__17.Rev_ yb14__17.At_ yb14__17.N_ yb14__17.Target_ yb14__17.Err_ yb14__17.Edit_)) hI.st (hg.up hI.le) ⟨Ab14__17_8, cb14__17_8, rfl, ⟨hc40_, hs40_⟩⟩ h).mono ?_
    rintro _ w41_ ⟨r41_0, L41_, H41_, rfl, hI41_, h⟩
    refine Exists.elim (hI.call hI41_ (by simp)) fun L410_ h41_ => ?_
    have hz41_ := hI.size
    replace hI := h41_.1
    have u41_ := h41_.2.1
    have hl41_ := h41_.2.2
    clear h41_
    replace ht2_ := ht2_.up u41_ (by simp)
    replace htb14__17 := htb14__17.up u41_ (by simp)
    replace hll36_ := hll36_.trans u41_.ll
    replace hhh36_ := hhh36_.trans u41_.hh
    replace hs40_ := hs40_.up u41_.hh
    clear hI41_ u41_ hl41_
    refine ⟨_, rfl, ?_⟩
    refine Ops_step (R_neq rfl rfl) rfl rfl (Ops_step (R_pick_false rfl rfl) rfl rfl ?_)
    refine Ops_nil ?_
    refine then_n ?_
    exact ⟨_, rfl, ⟨(decide (r41_0 ≠ 0)), (api_Msg.mk 0 0 0 0 0 0 0 0 []), none, 0, (api_Msg.mk yb14__17.Kind_ yb14__17.Who_ yb14__17.Seq_ yb14__17.Rev_ yb14__17.At_ yb14__17.N_ yb14__17.Target_ yb14__17.Err_ yb14__17.Edit_), _, _, rfl, h, hI, hll36_, hhh36_, ht2_, OwnS.nil, ⟨_, ⟨Ab14__17_8, cb14__17_8, rfl, ⟨hc40_, hs40_⟩⟩, htb14__17⟩, trivial⟩, ⟨rfl, rfl, trivial⟩⟩
  ·
   simp only [e_, Nat.reduceAdd, Nat.reduceBEq] at b_
   subst b_
   clear h
   rintro _ w36_ ⟨x49_36, yb2__36, Ab2__36_8, cb2__36_8, yb14__36, L36_, H36_, rfl, hJ36_, hI36_, hll36_, hhh36_, htb2__36, hob2__36_8, hqb14__36, -⟩
   replace hI := hI36_
   clear hI36_
   have h := hr36_ x49_36 yb2__36 yb14__36 hJ36_
   clear hr36_ hJ36_
   obtain ⟨lb14__36_, hlb14__36_, htb14__36⟩ := hqb14__36
   obtain ⟨Ab14__36_1, cb14__36_1, rfl, ⟨hcb14__36_1, hsb14__36_1⟩⟩ := hlb14__36_
   refine W_cond rfl (fun hc42_ => ?_) (fun hc42_ => ?_)
   ·
    replace h := h.1 hc42_
    refine W_seq_k fun K43 k43 => ?_
    refine W_region [50, none, 3] rfl ?_
    refine Ops_step (R_build (pl := []) (cs := [vi 0, vi 0, vi 0, vi 0, vi 0, vi 0, vi 0, vi 0, .slice none 0 0]) zr25 pl25 rfl rfl rfl) rfl rfl ?_
    refine Ops_to0 (R_storeN sz25 rfl rfl rfl htb2__36.blk (Nat.le_of_ble_eq_true rfl) rfl) rfl ?_
    rintro _ w44_ ⟨hB44_, hF44_⟩
    replace hI := hI.tok hF44_ (out1 htb2__36.out) (new1 hge_b2_)
    replace hob2__36_8 := hob2__36_8.fr hF44_ (hob2__36_8.ne htb2__36.blk (by decide))
    replace htb2__36 : Tok H36_ _ b2_ 25 ([vi 0, vi 0, vi 0, vi 0, vi 0, vi 0, vi 0, vi 0, .slice none 0 0]) := ⟨hB44_, htb2__36.out⟩
    clear hF44_ hB44_
    refine Ops_step (R_assign rfl) rfl rfl ?_
    refine Ops_nil ?_
    refine then_n (k43 _ _ ?_)
    clear k43 K43
    refine W_ret ?_
    refine then_ret ?_
    clear k35 K35
    refine ⟨_, ⟨_, _, _, rfl, rfl, run_loadVarN ag25 sz25 htb2__36.blk (Nat.le_of_ble_eq_true rfl), ⟨_, _, rfl, rfl, rfl⟩⟩, ?_⟩
    exact ⟨_, (api_Msg.mk 0 0 0 0 0 0 0 0 []), 120, _, _, rfl, hI, ⟨none, 0, rfl, ⟨(Nat.le_refl 0), Sl.nil⟩⟩, h⟩
   ·
    replace h := h.2 hc42_
    refine W_skip ?_
    refine then_n (k35 _ _ ?_)
    clear k35 K35
    refine W_seq_k fun K45 k45 => ?_
    refine W_region [51, none, 3] rfl (Ops_step (R_loadN ag25 sz25 rfl htb14__36.blk (Nat.le_of_ble_eq_true rfl)) rfl rfl ?_)
    refine Ops_to0 (R_storeN sz25 rfl rfl rfl htb2__36.blk (Nat.le_of_ble_eq_true rfl) rfl) rfl ?_
    rintro _ w46_ ⟨hB46_, hF46_⟩
    replace hI := hI.tok hF46_ (out1 htb2__36.out) (new1 hge_b2_)
    replace hob2__36_8 := hob2__36_8.fr hF46_ (hob2__36_8.ne htb2__36.blk (by decide))
    replace htb2__36 : Tok H36_ _ b2_ 25 ([vi yb14__36.Kind_, vi yb14__36.Who_, vi yb14__36.Seq_, vi yb14__36.Rev_, vi yb14__36.At_, vi yb14__36.N_, vi yb14__36.Target_, vi yb14__36.Err_, .slice Ab14__36_1 yb14__36.Edit_.length cb14__36_1]) := ⟨hB46_, htb2__36.out⟩
    clear hF46_ hB46_
    refine Ops_step (R_assign rfl) rfl rfl ?_
    refine Ops_nil ?_
    refine then_n (k45 _ _ ?_)
    clear k45 K45
    refine W_ret ?_
    refine ⟨_, ⟨_, _, _, rfl, rfl, run_loadVarN ag25 sz25 htb2__36.blk (Nat.le_of_ble_eq_true rfl), ⟨_, _, rfl, rfl, rfl⟩⟩, ?_⟩
    exact ⟨_, yb14__36, 0, _, _, rfl, hI, ⟨Ab14__36_1, cb14__36_1, rfl, ⟨hcb14__36_1, hsb14__36_1⟩⟩, h⟩

theorem sealskinref13_Same_ok {G : Gh} {w : World} (hS : St G w) (hg : GL G) {l0 : List Value} {x0 : api_Msg} (hr0 : Rp.cs G x0 l0) {l1 : List Value} {x1 : api_Msg} (hr1 : Rp.cs G x1 l1) {Q : Bool → Prop} (h : sealskinref13_Same x0 x1 Q) : Calls Tryd.prog 33 #[.agg l0.toArray, .agg l1.toArray] w fun e w2 => ∃ (r0 : Bool) (L H : Gh), e = .returned (.bool r0) ∧ Inv [] G w L H w2 ∧ Q r0 := by
 unfold sealskinref13_Same at h
 have hI := Inv.start (M := []) hS
 refine calls_W 66 Tryd.func33 rfl Tryd.ntmps33 rfl [.tmp 4] rfl ?_
 obtain ⟨A0_1, c0_1, rfl, ⟨hc0_1, hs0_1⟩⟩ := hr0
 obtain ⟨A1_1, c1_1, rfl, ⟨hc1_1, hs1_1⟩⟩ := hr1
 refine W_seq_k fun K1 k1 => ?_
 refine W_region [2, 3, 4] rfl ?_
 have hI0_ := hI
 refine Ops_to (R_box rfl) rfl rfl ?_
 rintro _ w2_ ⟨b2_, rfl, hb2_, hB2_, hF2_⟩
 replace hI := hI.fr0 hF2_
 have ht2_ : Tok G _ b2_ 25 ([vi x0.Kind_, vi x0.Who_, vi x0.Seq_, vi x0.Rev_, vi x0.At_, vi x0.N_, vi x0.Target_, vi x0.Err_, .slice A0_1 x0.Edit_.length c0_1]) := ⟨hB2_.to rfl, Out.ge hI0_.st (Nat.le_of_eq hb2_.symm)⟩
 have hge_b2_ : w.heap.size ≤ b2_ := hb2_ ▸ hI0_.size
 clear hB2_ hb2_ hI0_ hF2_
 have hlo3_b2_ := ht2_.blk.lt
 have hI0_ := hI
 refine Ops_to (R_box rfl) rfl rfl ?_
 rintro _ w3_ ⟨b3_, rfl, hb3_, hB3_, hF3_⟩
 replace hI := hI.fr0 hF3_
 replace ht2_ := ht2_.fr0 hF3_
 have ht3_ : Tok G _ b3_ 25 ([vi x1.Kind_, vi x1.Who_, vi x1.Seq_, vi x1.Rev_, vi x1.At_, vi x1.N_, vi x1.Target_, vi x1.Err_, .slice A1_1 x1.Edit_.length c1_1]) := ⟨hB3_.to rfl, Out.ge hI0_.st (Nat.le_of_eq hb3_.symm)⟩
 have hge_b3_ : w.heap.size ≤ b3_ := hb3_ ▸ hI0_.size
 have hne3_b2_ : b2_ ≠ b3_ := fun e_ => absurd hlo3_b2_ (by omega)
 clear hB3_ hb3_ hI0_ hF3_
 refine Ops_step (R_assign rfl) rfl rfl ?_
 refine Ops_nil ?_
 refine then_n (k1 _ _ ?_)
 clear k1 K1
 refine W_seq_k fun K4 k4 => ?_
 refine W_region [5, 6, 7, 8, 9, 10, 11, 12, 13, 14, 15, 16, 17, 18, 19, 20, 21, 22, 23, 24, 25, 26, 27, 28, 29, 30, 31, 32, 33, 34, 35, 36, 37, 38, 39, 40, 41, 42, 43, 44, 45, 46, 47, 48, 49, 50, 51, 52, 53, 54, 55, 56, 57, 58, 59, 60, 61, 62, 63, 64, 65, 4] rfl (Ops_step (R_fieldAddr fo25_0 rfl) rfl rfl ?_)
 refine Ops_step (R_loadB (v := vi x0.Kind_) ag3 rfl ht2_.blk rfl) rfl rfl ?_
 refine Ops_step (R_fieldAddr fo25_0 rfl) rfl rfl ?_
 refine Ops_step (R_loadB (v := vi x1.Kind_) ag3 rfl ht3_.blk rfl) rfl rfl ?_
 refine Ops_step (R_eql rfl rfl) rfl rfl (Ops_step (R_move rfl) rfl rfl ?_)
 refine Ops_split 10 rfl (fun hg5_ => ?_) (fun hg5_ => ?_)
 ·
  replace h := h.1 hg5_
  refine Ops_step (R_fieldAddr fo25_1 rfl) rfl rfl ?_
  refine Ops_step (R_loadB (v := vi x0.Who_) ag3 rfl ht2_.blk rfl) rfl rfl ?_
  refine Ops_step (R_fieldAddr fo25_1 rfl) rfl rfl ?_
  refine Ops_step (R_loadB (v := vi x1.Who_) ag3 rfl ht3_.blk rfl) rfl rfl ?_
  refine Ops_step (R_eql rfl rfl) rfl rfl (Ops_step (R_pick_true rfl rfl) rfl rfl (Ops_step (R_move rfl) rfl rfl ?_))
  refine Ops_split 17 rfl (fun hg6_ => ?_) (fun hg6_ => ?_)
  ·
   replace h := h.1 hg6_
   refine Ops_step (R_fieldAddr fo25_2 rfl) rfl rfl ?_
   refine Ops_step (R_loadB (v := vi x0.Seq_) ag3 rfl ht2_.blk rfl) rfl rfl ?_
   refine Ops_step (R_fieldAddr fo25_2 rfl) rfl rfl ?_
   refine Ops_step (R_loadB (v := vi x1.Seq_) ag3 rfl ht3_.blk rfl) rfl rfl ?_
   refine Ops_step (R_eql rfl rfl) rfl rfl (Ops_step (R_pick_true rfl rfl) rfl rfl (Ops_step (R_move rfl) rfl rfl ?_))
   refine Ops_split 24 rfl (fun hg7_ => ?_) (fun hg7_ => ?_)
   ·
    replace h := h.1 hg7_
    refine Ops_step (R_fieldAddr fo25_3 rfl) rfl rfl ?_
    refine Ops_step (R_loadB (v := vi x0.Rev_) ag3 rfl ht2_.blk rfl) rfl rfl ?_
    refine Ops_step (R_fieldAddr fo25_3 rfl) rfl rfl ?_
    refine Ops_step (R_loadB (v := vi x1.Rev_) ag3 rfl ht3_.blk rfl) rfl rfl ?_
    refine Ops_step (R_eql rfl rfl) rfl rfl (Ops_step (R_pick_true rfl rfl) rfl rfl (Ops_step (R_move rfl) rfl rfl ?_))
    refine Ops_split 31 rfl (fun hg8_ => ?_) (fun hg8_ => ?_)
    ·
     replace h := h.1 hg8_
     refine Ops_step (R_fieldAddr fo25_4 rfl) rfl rfl ?_
     refine Ops_step (R_loadB (v := vi x0.At_) ag3 rfl ht2_.blk rfl) rfl rfl ?_
     refine Ops_step (R_fieldAddr fo25_4 rfl) rfl rfl ?_
     refine Ops_step (R_loadB (v := vi x1.At_) ag3 rfl ht3_.blk rfl) rfl rfl ?_
     refine Ops_step (R_eql rfl rfl) rfl rfl (Ops_step (R_pick_true rfl rfl) rfl rfl (Ops_step (R_move rfl) rfl rfl ?_))
     refine Ops_split 38 rfl (fun hg9_ => ?_) (fun hg9_ => ?_)
     ·
      replace h := h.1 hg9_
      refine Ops_step (R_fieldAddr fo25_5 rfl) rfl rfl ?_
      refine Ops_step (R_loadB (v := vi x0.N_) ag3 rfl ht2_.blk rfl) rfl rfl ?_
      refine Ops_step (R_fieldAddr fo25_5 rfl) rfl rfl ?_
      refine Ops_step (R_loadB (v := vi x1.N_) ag3 rfl ht3_.blk rfl) rfl rfl ?_
      refine Ops_step (R_eql rfl rfl) rfl rfl (Ops_step (R_pick_true rfl rfl) rfl rfl (Ops_step (R_move rfl) rfl rfl ?_))
      refine Ops_split 45 rfl (fun hg10_ => ?_) (fun hg10_ => ?_)
      ·
       replace h := h.1 hg10_
       refine Ops_step (R_fieldAddr fo25_6 rfl) rfl rfl ?_
       refine Ops_step (R_loadB (v := vi x0.Target_) ag3 rfl ht2_.blk rfl) rfl rfl ?_
       refine Ops_step (R_fieldAddr fo25_6 rfl) rfl rfl ?_
       refine Ops_step (R_loadB (v := vi x1.Target_) ag3 rfl ht3_.blk rfl) rfl rfl ?_
       refine Ops_step (R_eql rfl rfl) rfl rfl (Ops_step (R_pick_true rfl rfl) rfl rfl (Ops_step (R_move rfl) rfl rfl ?_))
       refine Ops_split 52 rfl (fun hg11_ => ?_) (fun hg11_ => ?_)
       ·
        replace h := h.1 hg11_
        refine Ops_step (R_fieldAddr fo25_7 rfl) rfl rfl ?_
        refine Ops_step (R_loadB (v := vi x0.Err_) ag22 rfl ht2_.blk rfl) rfl rfl ?_
        refine Ops_step (R_fieldAddr fo25_7 rfl) rfl rfl ?_
        refine Ops_step (R_loadB (v := vi x1.Err_) ag22 rfl ht3_.blk rfl) rfl rfl ?_
        refine Ops_step (R_eql rfl rfl) rfl rfl (Ops_step (R_pick_true rfl rfl) rfl rfl (Ops_step (R_move rfl) rfl rfl ?_))
        refine Ops_split 59 rfl (fun hg12_ => ?_) (fun hg12_ => ?_)
        ·
         replace h := h.1 hg12_
         refine Ops_step (R_fieldAddr fo25_8 rfl) rfl rfl ?_
         refine Ops_step (R_loadB (v := .slice A0_1 x0.Edit_.length c0_1) ag23 rfl ht2_.blk rfl) rfl rfl ?_
         refine Ops_step (R_fieldAddr fo25_8 rfl) rfl rfl ?_
         refine Ops_step (R_loadB (v := .slice A1_1 x1.Edit_.length c1_1) ag23 rfl ht3_.blk rfl) rfl rfl ?_
         refine Ops_call (C_func bd65 rfl) rfl rfl ?_
         refine (sealskinref03_Same_ok (x0 := x0.Edit_) (x1 := x1.Edit_) hI.st (hg.up hI.le) hc0_1 hs0_1 hc1_1 hs1_1 h).mono ?_
         rintro _ w13_ ⟨r13_0, L13_, H13_, rfl, hI13_, h⟩
         refine Exists.elim (hI.call hI13_ (by simp)) fun L130_ h13_ => ?_
         have hz13_ := hI.size
         replace hI := h13_.1
         have u13_ := h13_.2.1
         have hl13_ := h13_.2.2
         clear h13_
         clear hI13_ u13_ hl13_
         refine ⟨_, rfl, ?_⟩
         refine Ops_step (R_pick_true rfl rfl) rfl rfl (Ops_step (R_assign rfl) rfl rfl ?_)
         refine Ops_nil ?_
         refine then_n (k4 _ _ ?_)
         clear k4 K4
         refine W_keepB [4] fun B_ b_ => ?_
         simp only [e_, Nat.reduceAdd, Nat.reduceBEq] at b_
         subst b_
         refine W_ret ?_
         refine ⟨_, ⟨_, _, rfl, rfl, rfl⟩, ?_⟩
         exact ⟨r13_0, _, _, rfl, hI, h⟩
        ·
         replace h := h.2 hg12_
         refine Ops_pass rfl rfl (Ops_pass rfl rfl (Ops_pass rfl rfl (Ops_pass rfl rfl (Ops_pass rfl rfl ?_))))
         refine Ops_step (R_pick_false rfl rfl) rfl rfl (Ops_step (R_assign rfl) rfl rfl ?_)
         refine Ops_nil ?_
         refine then_n (k4 _ _ ?_)
         clear k4 K4
         refine W_keepB [4] fun B_ b_ => ?_
         simp only [e_, Nat.reduceAdd, Nat.reduceBEq] at b_
         subst b_
         refine W_ret ?_
         refine ⟨_, ⟨_, _, rfl, rfl, rfl⟩, ?_⟩
         exact ⟨false, _, _, rfl, hI, h⟩
       ·
        replace h := h.2 hg11_
        refine Ops_pass rfl rfl (Ops_pass rfl rfl (Ops_pass rfl rfl (Ops_pass rfl rfl (Ops_pass rfl rfl ?_))))
        refine Ops_step (R_pick_false rfl rfl) rfl rfl (Ops_step (R_move rfl) rfl rfl (Ops_pass rfl rfl (Ops_pass rfl rfl (Ops_pass rfl rfl ?_))))
        refine Ops_pass rfl rfl (Ops_pass rfl rfl (Ops_step (R_pick_false rfl rfl) rfl rfl (Ops_step (R_assign rfl) rfl rfl ?_)))
        refine Ops_nil ?_
        refine then_n (k4 _ _ ?_)
        clear k4 K4
        refine W_keepB [4] fun B_ b_ => ?_
        simp only [e_, Nat.reduceAdd, Nat.reduceBEq] at b_
        subst b_
        refine W_ret ?_
        refine ⟨_, ⟨_, _, rfl, rfl, rfl⟩, ?_⟩
        exact ⟨false, _, _, rfl, hI, h⟩
      ·
       replace h := h.2 hg10_
       refine Ops_pass rfl rfl (Ops_pass rfl rfl (Ops_pass rfl rfl (Ops_pass rfl rfl (Ops_pass rfl rfl ?_))))
       refine Ops_step (R_pick_false rfl rfl) rfl rfl (Ops_step (R_move rfl) rfl rfl (Ops_pass rfl rfl (Ops_pass rfl rfl (Ops_pass rfl rfl ?_))))
       refine Ops_pass rfl rfl (Ops_pass rfl rfl (Ops_step (R_pick_false rfl rfl) rfl rfl (Ops_step (R_move rfl) rfl rfl (Ops_pass rfl rfl ?_))))
       refine Ops_pass rfl rfl (Ops_pass rfl rfl (Ops_pass rfl rfl (Ops_pass rfl rfl (Ops_step (R_pick_false rfl rfl) rfl rfl ?_))))
       refine Ops_step (R_assign rfl) rfl rfl ?_
       refine Ops_nil ?_
       refine then_n (k4 _ _ ?_)
       clear k4 K4
       refine W_keepB [4] fun B_ b_ => ?_
       simp only [e_, Nat.reduceAdd, Nat.reduceBEq] at b_
       subst b_
       refine W_ret ?_
       refine ⟨_, ⟨_, _, rfl, rfl, rfl⟩, ?_⟩
       exact ⟨false, _, _, rfl, hI, h⟩
     ·
      replace h := h.2 hg9_
      refine Ops_pass rfl rfl (Ops_pass rfl rfl (Ops_pass rfl rfl (Ops_pass rfl rfl (Ops_pass rfl rfl ?_))))
      refine Ops_step (R_pick_false rfl rfl) rfl rfl (Ops_step (R_move rfl) rfl rfl (Ops_pass rfl rfl (Ops_pass rfl rfl (Ops_pass rfl rfl ?_))))
      refine Ops_pass rfl rfl (Ops_pass rfl rfl (Ops_step (R_pick_false rfl rfl) rfl rfl (Ops_step (R_move rfl) rfl rfl (Ops_pass rfl rfl ?_))))
      refine Ops_pass rfl rfl (Ops_pass rfl rfl (Ops_pass rfl rfl (Ops_pass rfl rfl (Ops_step (R_pick_false rfl rfl) rfl rfl ?_))))
      refine Ops_step (R_move rfl) rfl rfl (Ops_pass rfl rfl (Ops_pass rfl rfl (Ops_pass rfl rfl (Ops_pass rfl rfl ?_))))
      refine Ops_pass rfl rfl (Ops_step (R_pick_false rfl rfl) rfl rfl (Ops_step (R_assign rfl) rfl rfl ?_))
      refine Ops_nil ?_
      refine then_n (k4 _ _ ?_)
      clear k4 K4
      refine W_keepB [4] fun B_ b_ => ?_
      simp only [e_, Nat.reduceAdd, Nat.reduceBEq] at b_
      subst b_
      refine W_ret ?_
      refine ⟨_, ⟨_, _, rfl, rfl, rfl⟩, ?_⟩
      exact ⟨false, _, _, rfl, hI, h⟩
    ·
     replace h := h.2 hg8_
     refine Ops_pass rfl rfl (Ops_pass rfl rfl (Ops_pass rfl rfl (Ops_pass rfl rfl (Ops_pass rfl rfl ?_))))
     refine Ops_step (R_pick_false rfl rfl) rfl rfl (Ops_step (R_move rfl) rfl rfl (Ops_pass rfl rfl (Ops_pass rfl rfl (Ops_pass rfl rfl ?_))))
     refine Ops_pass rfl rfl (Ops_pass rfl rfl (Ops_step (R_pick_false rfl rfl) rfl rfl (Ops_step (R_move rfl) rfl rfl (Ops_pass rfl rfl ?_))))
     refine Ops_pass rfl rfl (Ops_pass rfl rfl (Ops_pass rfl rfl (Ops_pass rfl rfl (Ops_step (R_pick_false rfl rfl) rfl rfl ?_))))
     refine Ops_step (R_move rfl) rfl rfl (Ops_pass rfl rfl (Ops_pass rfl rfl (Ops_pass rfl rfl (Ops_pass rfl rfl ?_))))
     refine Ops_pass rfl rfl (Ops_step (R_pick_false rfl rfl) rfl rfl (Ops_step (R_move rfl) rfl rfl (Ops_pass rfl rfl (Ops_pass rfl rfl ?_))))
     refine Ops_pass rfl rfl (Ops_pass rfl rfl (Ops_pass rfl rfl (Ops_step (R_pick_false rfl rfl) rfl rfl (Ops_step (R_assign rfl) rfl rfl ?_))))
     refine Ops_nil ?_
     refine then_n (k4 _ _ ?_)
     clear k4 K4
     refine W_keepB [4] fun B_ b_ => ?_
     simp only [e_, Nat.reduceAdd, Nat.reduceBEq] at b_
     subst b_
     refine W_ret ?_
     refine ⟨_, ⟨_, _, rfl, rfl, rfl⟩, ?_⟩
     exact ⟨false, _, _, rfl, hI, h⟩
   ·
    replace h := h.2 hg7_
    refine Ops_pass rfl rfl (Ops_pass rfl rfl (Ops_pass rfl rfl (Ops_pass rfl rfl (Ops_pass rfl rfl ?_))))
    refine Ops_step (R_pick_false rfl rfl) rfl rfl (Ops_step (R_move rfl) rfl rfl (Ops_pass rfl rfl (Ops_pass rfl rfl (Ops_pass rfl rfl ?_))))
    refine Ops_pass rfl rfl (Ops_pass rfl rfl (Ops_step (R_pick_false rfl rfl) rfl rfl (Ops_step (R_move rfl) rfl rfl (Ops_pass rfl rfl ?_))))
    refine Ops_pass rfl rfl (Ops_pass rfl rfl (Ops_pass rfl rfl (Ops_pass rfl rfl (Ops_step (R_pick_false rfl rfl) rfl rfl ?_))))
    refine Ops_step (R_move rfl) rfl rfl (Ops_pass rfl rfl (Ops_pass rfl rfl (Ops_pass rfl rfl (Ops_pass rfl rfl ?_))))
    refine Ops_pass rfl rfl (Ops_step (R_pick_false rfl rfl) rfl rfl (Ops_step (R_move rfl) rfl rfl (Ops_pass rfl rfl (Ops_pass rfl rfl ?_))))
    refine Ops_pass rfl rfl (Ops_pass rfl rfl (Ops_pass rfl rfl (Ops_step (R_pick_false rfl rfl) rfl rfl (Ops_step (R_move rfl) rfl rfl ?_))))
    refine Ops_pass rfl rfl (Ops_pass rfl rfl (Ops_pass rfl rfl (Ops_pass rfl rfl (Ops_pass rfl rfl ?_))))
    refine Ops_step (R_pick_false rfl rfl) rfl rfl (Ops_step (R_assign rfl) rfl rfl ?_)
    refine Ops_nil ?_
    refine then_n (k4 _ _ ?_)
    clear k4 K4
    refine W_keepB [4] fun B_ b_ => ?_
    simp only [e_, Nat.reduceAdd, Nat.reduceBEq] at b_
    subst b_
    refine W_ret ?_
    refine ⟨_, ⟨_, _, rfl, rfl, rfl⟩, ?_⟩
    exact ⟨false, _, _, rfl, hI, h⟩
  ·
   replace h := h.2 hg6_
   refine Ops_pass rfl rfl (Ops_pass rfl rfl (Ops_pass rfl rfl (Ops_pass rfl rfl (Ops_pass rfl rfl ?_))))
   refine Ops_step (R_pick_false rfl rfl) rfl rfl (Ops_step (R_move rfl) rfl rfl (Ops_pass rfl rfl (Ops_pass rfl rfl (Ops_pass rfl rfl ?_))))
   refine Ops_pass rfl rfl (Ops_pass rfl rfl (Ops_step (R_pick_false rfl rfl) rfl rfl (Ops_step (R_move rfl) rfl rfl (Ops_pass rfl rfl ?_))))
   refine Ops_pass rfl rfl (Ops_pass rfl rfl (Ops_pass rfl rfl (Ops_pass rfl rfl (Ops_step (R_pick_false rfl rfl) rfl rfl ?_))))
   refine Ops_step (R_move rfl) rfl rfl (Ops_pass rfl rfl (Ops_pass rfl rfl (Ops_pass rfl rfl (Ops_pass rfl rfl ?_))))
   refine Ops_pass rfl rfl (Ops_step (R_pick_false rfl rfl) rfl rfl (Ops_step (R_move rfl) rfl rfl (Ops_pass rfl rfl (Ops_pass rfl rfl ?_))))
   refine Ops_pass rfl rfl (Ops_pass rfl rfl (Ops_pass rfl rfl (Ops_step (R_pick_false rfl rfl) rfl rfl (Ops_step (R_move rfl) rfl rfl ?_))))
   refine Ops_pass rfl rfl (Ops_pass rfl rfl (Ops_pass rfl rfl (Ops_pass rfl rfl (Ops_pass rfl rfl ?_))))
   refine Ops_step (R_pick_false rfl rfl) rfl rfl (Ops_step (R_move rfl) rfl rfl (Ops_pass rfl rfl (Ops_pass rfl rfl (Ops_pass rfl rfl ?_))))
   refine Ops_pass rfl rfl (Ops_pass rfl rfl (Ops_step (R_pick_false rfl rfl) rfl rfl (Ops_step (R_assign rfl) rfl rfl ?_)))
   refine Ops_nil ?_
   refine then_n (k4 _ _ ?_)
   clear k4 K4
   refine W_keepB [4] fun B_ b_ => ?_
   simp only [e_, Nat.reduceAdd, Nat.reduceBEq] at b_
   subst b_
   refine W_ret ?_
   refine ⟨_, ⟨_, _, rfl, rfl, rfl⟩, ?_⟩
   exact ⟨false, _, _, rfl, hI, h⟩
 ·
  replace h := h.2 hg5_
  refine Ops_pass rfl rfl (Ops_pass rfl rfl (Ops_pass rfl rfl (Ops_pass rfl rfl (Ops_pass rfl rfl ?_))))
  refine Ops_step (R_pick_false rfl rfl) rfl rfl (Ops_step (R_move rfl) rfl rfl (Ops_pass rfl rfl (Ops_pass rfl rfl (Ops_pass rfl rfl ?_))))
  refine Ops_pass rfl rfl (Ops_pass rfl rfl (Ops_step (R_pick_false rfl rfl) rfl rfl (Ops_step (R_move rfl) rfl rfl (Ops_pass rfl rfl ?_))))
  refine Ops_pass rfl rfl (Ops_pass rfl rfl (Ops_pass rfl rfl (Ops_pass rfl rfl (Ops_step (R_pick_false rfl rfl) rfl rfl ?_))))
  refine Ops_step (R_move rfl) rfl rfl (Ops_pass rfl rfl (Ops_pass rfl rfl (Ops_pass rfl rfl (Ops_pass rfl rfl ?_))))
  refine Ops_pass rfl rfl (Ops_step (R_pick_false rfl rfl) rfl rfl (Ops_step (R_move rfl) rfl rfl (Ops_pass rfl rfl (Ops_pass rfl rfl ?_))))
  refine Ops_pass rfl rfl (Ops_pass rfl rfl (Ops_pass rfl rfl (Ops_step (R_pick_false rfl rfl) rfl rfl (Ops_step (R_move rfl) rfl rfl ?_))))
  refine Ops_pass rfl rfl (Ops_pass rfl rfl (Ops_pass rfl rfl (Ops_pass rfl rfl (Ops_pass rfl rfl ?_))))
  refine Ops_step (R_pick_false rfl rfl) rfl rfl (Ops_step (R_move rfl) rfl rfl (Ops_pass rfl rfl (Ops_pass rfl rfl (Ops_pass rfl rfl ?_))))
  refine Ops_pass rfl rfl (Ops_pass rfl rfl (Ops_step (R_pick_false rfl rfl) rfl rfl (Ops_step (R_move rfl) rfl rfl (Ops_pass rfl rfl ?_))))
  refine Ops_pass rfl rfl (Ops_pass rfl rfl (Ops_pass rfl rfl (Ops_pass rfl rfl (Ops_step (R_pick_false rfl rfl) rfl rfl ?_))))
  refine Ops_step (R_assign rfl) rfl rfl ?_
  refine Ops_nil ?_
  refine then_n (k4 _ _ ?_)
  clear k4 K4
  refine W_keepB [4] fun B_ b_ => ?_
  simp only [e_, Nat.reduceAdd, Nat.reduceBEq] at b_
  subst b_
  refine W_ret ?_
  refine ⟨_, ⟨_, _, rfl, rfl, rfl⟩, ?_⟩
  exact ⟨false, _, _, rfl, hI, h⟩

end Go.Proofs.YtbjmngacjdcddaaDoor

