/- What is shown of the program on the way to the law. -/
import Derived.Test.YtbjmngacjdcddaaDoorZG2
import Derived.Test.YtbjmngacjdcddaaDoorZG12
import Derived.Test.YtbjmngacjdcddaaDoorZG14
import Derived.Test.YtbjmngacjdcddaaDoorProg
set_option linter.unusedVariables false
set_option linter.unusedSimpArgs false
set_option maxHeartbeats 4000000
namespace Go.Proofs.YtbjmngacjdcddaaDoor
open Go Go.Sx Go.Lx
namespace TFtF
theorem hm : Tryd.prog.follows .mixedOrders = true := by kernel_rfl
theorem ag22 : aggB Tryd.prog 22 = some false := by kernel_rfl
theorem ag23 : aggB Tryd.prog 23 = some false := by kernel_rfl
theorem ag25 : aggB Tryd.prog 25 = some true := by kernel_rfl
theorem ag3 : aggB Tryd.prog 3 = some false := by kernel_rfl
theorem ag54 : aggB Tryd.prog 54 = some true := by kernel_rfl
theorem ag9 : aggB Tryd.prog 9 = some false := by kernel_rfl
theorem bd14 : bodied Tryd.prog 14 = true := by kernel_rfl
theorem bd15 : bodied Tryd.prog 15 = true := by kernel_rfl
theorem bd25 : bodied Tryd.prog 25 = true := by kernel_rfl
theorem bd44 : bodied Tryd.prog 44 = true := by kernel_rfl
theorem bd45 : bodied Tryd.prog 45 = true := by kernel_rfl
theorem bd47 : bodied Tryd.prog 47 = true := by kernel_rfl
theorem bd52 : bodied Tryd.prog 52 = true := by kernel_rfl
theorem bd53 : bodied Tryd.prog 53 = true := by kernel_rfl
theorem bd54 : bodied Tryd.prog 54 = true := by kernel_rfl
theorem bd55 : bodied Tryd.prog 55 = true := by kernel_rfl
theorem bd62 : bodied Tryd.prog 62 = true := by kernel_rfl
theorem bd63 : bodied Tryd.prog 63 = true := by kernel_rfl
theorem bd64 : bodied Tryd.prog 64 = true := by kernel_rfl
theorem bd65 : bodied Tryd.prog 65 = true := by kernel_rfl
theorem bd66 : bodied Tryd.prog 66 = true := by kernel_rfl
theorem el23 : Elem Tryd.prog 23 54 3 32 := Elem.of (by kernel_rfl)
theorem el56 : Elem Tryd.prog 56 3 1 8 := Elem.of (by kernel_rfl)
theorem fo25_0 : offB Tryd.prog 25 0 = some 0 := by kernel_rfl
theorem fo25_1 : offB Tryd.prog 25 1 = some 1 := by kernel_rfl
theorem fo25_2 : offB Tryd.prog 25 2 = some 2 := by kernel_rfl
theorem fo25_3 : offB Tryd.prog 25 3 = some 3 := by kernel_rfl
theorem fo25_4 : offB Tryd.prog 25 4 = some 4 := by kernel_rfl
theorem fo25_5 : offB Tryd.prog 25 5 = some 5 := by kernel_rfl
theorem fo25_6 : offB Tryd.prog 25 6 = some 6 := by kernel_rfl
theorem fo25_7 : offB Tryd.prog 25 7 = some 7 := by kernel_rfl
theorem fo25_8 : offB Tryd.prog 25 8 = some 8 := by kernel_rfl
theorem fo54_0 : offB Tryd.prog 54 0 = some 0 := by kernel_rfl
theorem fo54_1 : offB Tryd.prog 54 1 = some 1 := by kernel_rfl
theorem fo54_2 : offB Tryd.prog 54 2 = some 2 := by kernel_rfl
theorem fo69_2 : offB Tryd.prog 69 2 = some 2 := by kernel_rfl
theorem pl25 : partPl Tryd.prog 25 = some [(0, 1), (1, 1), (2, 1), (3, 1), (4, 1), (5, 1), (6, 1), (7, 1), (8, 1)] := by kernel_rfl
theorem pl54 : partPl Tryd.prog 54 = some [(0, 1), (1, 1), (2, 1)] := by kernel_rfl
theorem pl69 : partPl Tryd.prog 69 = some [(0, 1), (1, 1), (2, 1)] := by kernel_rfl
theorem sz22 : sz Tryd.prog 22 = some 1 := by kernel_rfl
theorem sz23 : sz Tryd.prog 23 = some 1 := by kernel_rfl
theorem sz25 : sz Tryd.prog 25 = some 9 := by kernel_rfl
theorem sz54 : sz Tryd.prog 54 = some 3 := by kernel_rfl
theorem sz9 : sz Tryd.prog 9 = some 1 := by kernel_rfl
theorem zr25 : zr Tryd.prog 25 = some ([.int .i64 0] ++ [.int .i64 0] ++ [.int .i64 0] ++ [.int .i64 0] ++ [.int .i64 0] ++ [.int .i64 0] ++ [.int .i64 0] ++ [.int .i64 0] ++ [.slice none 0 0]) := by kernel_rfl
theorem zr3 : zr Tryd.prog 3 = some ([.int .i64 0]) := by kernel_rfl
theorem zr54 : zr Tryd.prog 54 = some ([.int .i64 0] ++ [.int .i64 0] ++ [.string ByteArray.empty]) := by kernel_rfl
theorem zr69 : zr Tryd.prog 69 = some ([.slice none 0 0] ++ [.int .i64 0] ++ [.int .i64 0]) := by kernel_rfl
end TFtF
open TFtF
theorem frame_Put_ok {G : Gh} {w : World} (hS : St G w) (hg : GL G) {l0 : List Value} {x0 : api_Msg} (hr0 : Rp.cs G x0 l0) {Q : (List UInt8) → Int → Prop} (h : frame_Put x0 Q) : Calls Tryd.prog 23 #[.agg l0.toArray] w fun e w2 => ∃ (A0 : Option Addr) (c0 : Nat) (r0 : List UInt8) (r1 : Int) (L H : Gh), e = .returned (.tuple #[.slice A0 r0.length c0, vi r1]) ∧ Inv [] G w L H w2 ∧ OwnS w.heap.size 5 L H w2 A0 c0 r0 ∧ Q r0 r1 := by
 unfold frame_Put at h
 have hI := Inv.start (M := []) hS
 refine calls_W 53 Tryd.func23 rfl Tryd.ntmps23 rfl [.tmp 2, .tmp 3] rfl ?_
 obtain ⟨A0_1, c0_1, rfl, ⟨hc0_1, hs0_1⟩⟩ := hr0
 refine W_seq_k fun K1 k1 => ?_
 refine W_region [1, 2, 3] rfl ?_
 have hI0_ := hI
 refine Ops_to (R_box rfl) rfl rfl ?_
 rintro _ w2_ ⟨b2_, rfl, hb2_, hB2_, hF2_⟩
 replace hI := hI.fr0 hF2_
 have ht2_ : Tok G _ b2_ 25 ([vi x0.Kind_, vi x0.Who_, vi x0.Seq_, vi x0.Rev_, vi x0.At_, vi x0.N_, vi x0.Target_, vi x0.Err_, .slice A0_1 x0.Edit_.length c0_1]) := ⟨hB2_.to rfl, Out.ge hI0_.st (Nat.le_of_eq hb2_.symm)⟩
 have hge_b2_ : w.heap.size ≤ b2_ := hb2_ ▸ hI0_.size
 clear hB2_ hb2_ hI0_ hF2_
 refine Ops_step (R_assign rfl) rfl rfl (Ops_step (R_assign rfl) rfl rfl ?_)
 refine Ops_nil ?_
 refine then_n (k1 _ _ ?_)
 clear k1 K1
 refine W_seq_k fun K3 k3 => ?_
 refine W_seq_k fun K4 k4 => ?_
 refine W_region [8, 9, 4] rfl (Ops_step (R_loadN ag25 sz25 rfl ht2_.blk (Nat.le_of_ble_eq_true rfl)) rfl rfl ?_)
 refine Ops_call (C_func bd14 rfl) rfl rfl ?_
 refine (frame_Check_ok (x0 := x0) hI.st (hg.up hI.le) ⟨A0_1, c0_1, rfl, ⟨hc0_1, hs0_1⟩⟩ h).mono ?_
 rintro _ w5_ ⟨r5_0, L5_, H5_, rfl, hI5_, h⟩
 refine Exists.elim (hI.call hI5_ (by simp)) fun L50_ h5_ => ?_
 have hz5_ := hI.size
 replace hI := h5_.1
 have u5_ := h5_.2.1
 have hl5_ := h5_.2.2
 clear h5_
 replace hs0_1 := hs0_1.up u5_.hh
 replace ht2_ := ht2_.up u5_ (by simp)
 clear hI5_ u5_ hl5_
 refine ⟨_, rfl, ?_⟩
 refine Ops_step (R_assign rfl) rfl rfl ?_
 refine Ops_nil ?_
 refine then_n (k4 _ _ ?_)
 clear k4 K4
 refine W_seq_k fun K6 k6 => ?_
 refine W_region [10, 11] rfl (Ops_step (R_move rfl) rfl rfl (Ops_step (R_neq rfl rfl) rfl rfl ?_))
 refine Ops_nil ?_
 refine then_n (k6 _ _ ?_)
 clear k6 K6
 refine W_keepB [1, 4, 11] fun B_ b_ => ?_
 simp only [e_, Nat.reduceAdd, Nat.reduceBEq] at b_
 subst b_
 refine W_if rfl (fun hc8_ => ?_) (fun hc8_ => ?_)
 ·
  replace h := h.1 hc8_
  refine W_seq_k fun K9 k9 => ?_
  refine W_region [12, 2, 3] rfl (Ops_step (R_move rfl) rfl rfl (Ops_step (R_assign rfl) rfl rfl (Ops_step (R_assign rfl) rfl rfl ?_)))
  refine Ops_nil ?_
  refine then_n (k9 _ _ ?_)
  clear k9 K9
  refine W_ret ?_
  refine then_ret ?_
  clear k3 K3
  refine ⟨_, ⟨_, _, rfl, rfl, ⟨_, _, rfl, rfl, rfl⟩⟩, ?_⟩
  exact ⟨none, 0, [], r5_0, _, _, rfl, hI, OwnS.nil, h⟩
 ·
  replace h := h.2 hc8_
  refine W_skip ?_
  refine then_n (k3 _ _ ?_)
  clear k3 K3
  refine W_seq_k fun K10 k10 => ?_
  refine W_region [13, 14, 15, 16, 17, 18, 19, 20, 21, 22, 23, 24, 25, 26, 27, 28, 29, 30, 31, 32, 33, 5] rfl (Ops_step (R_fieldAddr fo25_0 rfl) rfl rfl ?_)
  refine Ops_step (R_loadB (v := vi x0.Kind_) ag3 rfl ht2_.blk rfl) rfl rfl ?_
  refine Ops_step (R_fieldAddr fo25_1 rfl) rfl rfl ?_
  refine Ops_step (R_loadB (v := vi x0.Who_) ag3 rfl ht2_.blk rfl) rfl rfl ?_
  refine Ops_step (R_fieldAddr fo25_2 rfl) rfl rfl ?_
  refine Ops_step (R_loadB (v := vi x0.Seq_) ag3 rfl ht2_.blk rfl) rfl rfl ?_
  refine Ops_step (R_fieldAddr fo25_3 rfl) rfl rfl ?_
  refine Ops_step (R_loadB (v := vi x0.Rev_) ag3 rfl ht2_.blk rfl) rfl rfl ?_
  refine Ops_step (R_fieldAddr fo25_4 rfl) rfl rfl ?_
  refine Ops_step (R_loadB (v := vi x0.At_) ag3 rfl ht2_.blk rfl) rfl rfl ?_
  refine Ops_step (R_fieldAddr fo25_5 rfl) rfl rfl ?_
  refine Ops_step (R_loadB (v := vi x0.N_) ag3 rfl ht2_.blk rfl) rfl rfl ?_
  refine Ops_step (R_fieldAddr fo25_6 rfl) rfl rfl ?_
  refine Ops_step (R_loadB (v := vi x0.Target_) ag3 rfl ht2_.blk rfl) rfl rfl ?_
  refine Ops_step (R_fieldAddr fo25_7 rfl) rfl rfl ?_
  refine Ops_step (R_loadB (v := vi x0.Err_) ag22 rfl ht2_.blk rfl) rfl rfl ?_
  refine Ops_step (R_fieldAddr fo25_8 rfl) rfl rfl ?_
  refine Ops_step (R_loadB (v := .slice A0_1 x0.Edit_.length c0_1) ag23 rfl ht2_.blk rfl) rfl rfl ?_
  refine Ops_step (R_len Tryd.underlying23 rfl rfl) rfl rfl ?_
  refine Ops_to (R_buildSlice el56 zr3 (by decide) (by decide) rfl rfl) rfl rfl ?_
  rintro _ w11_ ⟨b11_, rfl, hb11_, hB11_, hF11_⟩
  have ho11_ : OwnS w.heap.size 3 Gh.no H5_ _ (some ⟨b11_, 0, none⟩) 9 ([x0.Kind_, x0.Who_, x0.Seq_, x0.Rev_, x0.At_, x0.N_, x0.Target_, x0.Err_, (x0.Edit_.length : Int)] : List Int) := OwnS.ofBlk hI.st hb11_ hB11_ (all2_sc' _) rfl (by have := hI.size; omega) (by show 9 ≤ maxLen; decide)
  replace hI := hI.fr0 hF11_
  replace ht2_ := ht2_.fr0 hF11_
  clear hF11_ hB11_
  refine Exists.elim (ho11_.lend hI.st (Le.no _)) fun Hb12_0_ hb12_0_ => ?_
  refine Ops_call (C_func bd52 rfl) rfl rfl ?_
  refine (octet_Put_ok (x0 := []) (x1 := ([x0.Kind_, x0.Who_, x0.Seq_, x0.Rev_, x0.At_, x0.N_, x0.Target_, x0.Err_, (x0.Edit_.length : Int)] : List Int)) hb12_0_.1 (hg.up (hI.le.trans hb12_0_.2.1)) (Nat.le_refl 0) Sl.nil (Nat.le_refl _) hb12_0_.2.2 h).mono ?_
  rintro _ w12_ ⟨A12_0, c12_0, r12_0, L12_, H12_, rfl, hI12_, ho12_0, h⟩
  refine Exists.elim (hI.callB hb12_0_.2.1 hI12_ (by simp)) fun L120_ h12_ => Exists.elim h12_ fun H120_ h12_ => ?_
  have hz12_ := hI.size
  replace hI := h12_.1
  have u12_ := h12_.2.1
  have hl12_ := h12_.2.2.1
  have hh12_ := h12_.2.2.2
  clear h12_
  replace hs0_1 := hs0_1.up u12_.hh
  replace ht2_ := ht2_.up u12_ (by simp)
  replace ho12_0 := OwnS.backS ho12_0 hz12_ hh12_
  clear hI12_ u12_ hl12_
  refine ⟨_, rfl, ?_⟩
  refine Ops_step (R_assign rfl) rfl rfl ?_
  refine Ops_nil ?_
  refine then_n (k10 _ _ ?_)
  clear k10 K10
  refine W_keepB [1, 5] fun B_ b_ => ?_
  simp only [e_, Nat.reduceAdd, Nat.reduceBEq] at b_
  subst b_
  refine ex_ h fun J14_ hr14_ h => ?_
  refine W_seq_join [] [5] (fun vals_ w2 => ∃ (x5_14 : List UInt8) (A5_14 : Option Addr) (c5_14 : Nat) (L H : Gh), vals_ = [.slice A5_14 x5_14.length c5_14] ∧ J14_ x5_14 ∧ Inv [] G w L H w2 ∧ Le L120_ L ∧ Le H120_ H ∧ OwnS w.heap.size 5 Gh.no H w2 A5_14 c5_14 x5_14 ∧ True) (fun B_ b_ => ?_) (fun B_ b_ => ?_)
  ·
   simp only [e_, Nat.reduceAdd, Nat.reduceBEq] at b_
   subst b_
   clear hr14_
   have hll14_ := Le.refl L120_
   have hhh14_ := Le.refl H120_
   refine W_seq_k fun K15 k15 => ?_
   refine W_region [34, 35, 36, 37] rfl (Ops_step (R_fieldAddr fo25_8 rfl) rfl rfl ?_)
   refine Ops_step (R_loadB (v := .slice A0_1 x0.Edit_.length c0_1) ag23 rfl ht2_.blk rfl) rfl rfl ?_
   refine Ops_step (R_len Tryd.underlying23 rfl rfl) rfl rfl (Ops_step (R_move rfl) rfl rfl ?_)
   refine Ops_nil ?_
   refine then_n (k15 _ _ ?_)
   clear k15 K15
   refine W_block ?_
   refine Exists.elim h fun I16_ h => Exists.elim h fun n16_ h => ?_
   have h0_ := h.1
   have hs16_ := h.2
   clear h
   refine W_loopB [35, 36] [5, 37] (fun m vals_ w2 => ∃ (x5_16 : List UInt8) (A5_16 : Option Addr) (c5_16 : Nat) (x37_16 : Int) (L H : Gh), vals_ = [.slice A5_16 x5_16.length c5_16, vi x37_16] ∧ I16_ m x5_16 x37_16 ∧ Inv [] G w L H w2 ∧ Le L120_ L ∧ Le H120_ H ∧ OwnS w.heap.size 5 Gh.no H w2 A5_16 c5_16 x5_16 ∧ True) n16_ _ rfl ⟨r12_0, A12_0, c12_0, 0, _, _, rfl, h0_, hI, Le.refl _, Le.refl _, ho12_0, trivial⟩ fun B_ b_ => ?_
   clear h0_
   simp only [e_, Nat.reduceAdd, Nat.reduceBEq] at b_
   subst b_
   rintro m16_ _ w16_ ⟨x5_16, A5_16, c5_16, x37_16, L16_, H16_, rfl, hJ16_, hI16_, hll16_, hhh16_, ho5_16, -⟩
   replace hI := hI16_
   clear hI16_
   have h := hs16_ m16_ x5_16 x37_16 hJ16_
   clear hs16_ hJ16_
   replace hs0_1 := hs0_1.up hhh16_
   replace hll14_ := hll14_.trans hll16_
   replace hhh14_ := hhh14_.trans hhh16_
   refine W_seq_k fun K17 k17 => ?_
   refine W_region [38] rfl (Ops_step (R_lss rfl rfl) rfl rfl ?_)
   refine Ops_nil ?_
   refine then_n (k17 _ _ ?_)
   clear k17 K17
   refine W_seq_k fun K18 k18 => ?_
   refine W_if rfl (fun hc19_ => ?_) (fun hc19_ => ?_)
   ·
    replace h := h.1 hc19_
    refine W_skip ?_
    refine then_n (k18 _ _ ?_)
    clear k18 K18
    refine W_seq_k fun K20 k20 => ?_
    refine W_block ?_
    refine W_seq_k fun K21 k21 => ?_
    refine W_region [39, 40, 7, none] rfl ?_
    refine ex_ h fun x22_ hx22_ h => ?_
    have ha22_ := (Sl.atN (n := 3) rfl (by decide) hs0_1 hx22_).1
    refine Exists.elim (Sl.atN (n := 3) rfl (by decide) hs0_1 hx22_).2 fun l22_ hA22_ => ?_
    have hr22_ := hA22_.1
    have hg22_ := hA22_.2
    clear hA22_
    refine Ops_step (R_indexSl Tryd.underlying23 sz54 rfl rfl hx22_.1 hx22_.lt ha22_) rfl rfl ?_
    replace hr22_ : l22_ = [vi x22_.Kind_, vi x22_.N_, vs x22_.Text_] := hr22_
    subst hr22_
    refine Ops_step (R_loadCs (cs := [vi x22_.Kind_, vi x22_.N_, vs x22_.Text_]) ag54 sz54 rfl (fun j_ v_ hv_ => hI.st _ _ (hg22_ j_ v_ hv_))) rfl rfl ?_
    have hI0_ := hI
    refine Ops_to (R_alloc zr54) rfl rfl ?_
    rintro _ w23_ ⟨b23_, rfl, hb23_, hB23_, hF23_⟩
    replace hI := hI.fr0 hF23_
    replace ho5_16 := ho5_16.fr0 hF23_
    have ht23_ : Tok H16_ _ b23_ 54 ([vi 0, vi 0, vs (Str.mk [])]) := ⟨hB23_.to rfl, Out.ge hI0_.st (Nat.le_of_eq hb23_.symm)⟩
    have hge_b23_ : w.heap.size ≤ b23_ := hb23_ ▸ hI0_.size
    clear hB23_ hb23_ hI0_ hF23_
    refine Ops_to0 (R_storeN sz54 rfl rfl rfl ht23_.blk (Nat.le_of_ble_eq_true rfl) rfl) rfl ?_
    rintro _ w24_ ⟨hB24_, hF24_⟩
    replace hI := hI.tok hF24_ (out1 ht23_.out) (new1 hge_b23_)
    replace ho5_16 := ho5_16.fr hF24_ (ho5_16.ne ht23_.blk (by decide))
    replace ht23_ : Tok H16_ _ b23_ 54 ([vi x22_.Kind_, vi x22_.N_, vs x22_.Text_]) := ⟨hB24_, ht23_.out⟩
    clear hF24_ hB24_
    refine Ops_nil ?_
    refine then_n (k21 _ _ ?_)
    clear k21 K21
    refine W_drawF [41, 42, 43, 44, 45, 46, 47, 48, 49, 50, 5] [(0, true), (1, true), (2, true), (3, true), (4, true), (7, true), (8, true), (5, false), (6, false), (9, false), (10, true)] TFtF.hm rfl (by kernel_rfl) fun ops25_ w25_ hops25_ hF25_ => ?_
    replace hI := hI.fr0 hF25_
    replace ho5_16 := ho5_16.fr0 hF25_
    replace ht23_ := ht23_.fr0 hF25_
    clear hF25_
    refine HSp (R_move rfl) rfl rfl (HSp (R_fieldAddr fo54_0 rfl) rfl rfl ?_)
    refine HS_loadB (v := vi x22_.Kind_) ag3 rfl ht23_.blk rfl rfl rfl ?_
    refine HSp (R_fieldAddr fo54_1 rfl) rfl rfl ?_
    refine HS_loadB (v := vi x22_.N_) ag3 rfl ht23_.blk rfl rfl rfl ?_
    refine HSp (R_fieldAddr fo54_2 rfl) rfl rfl ?_
    refine HS_loadB (v := vs x22_.Text_) ag9 rfl ht23_.blk rfl rfl rfl ?_
    refine HS_to [8] _ rfl (by rw [hops25_]; kernel_rfl) (R_buildSlice el56 zr3 (by decide) (by decide) rfl rfl) rfl rfl ?_
    rintro _ w26_ ⟨b26_, rfl, hb26_, hB26_, hF26_⟩
    have ho26_ : OwnS w.heap.size 3 Gh.no H16_ _ (some ⟨b26_, 0, none⟩) 2 ([x22_.Kind_, x22_.N_] : List Int) := OwnS.ofBlk hI.st hb26_ hB26_ (all2_sc' _) rfl (by have := hI.size; omega) (by show 2 ≤ maxLen; decide)
    replace hI := hI.fr0 hF26_
    replace ho5_16 := ho5_16.fr0 hF26_
    replace ht23_ := ht23_.fr0 hF26_
    clear hF26_ hB26_
    refine ⟨⟨(ht23_.blk.at_ rfl), trivial⟩, ?_⟩
    refine Exists.elim (ho5_16.lend hI.st (Le.no _)) fun Hb27_0_ hb27_0_ => ?_
    refine Exists.elim (ho26_.lend hb27_0_.1 ((Le.no _).trans hb27_0_.2.1)) fun Hb27_1_ hb27_1_ => ?_
    refine HS_call [8] _ rfl (by rw [hops25_]; kernel_rfl) (C_func bd52 rfl) rfl rfl ?_
    refine (octet_Put_ok (x0 := x5_16) (x1 := ([x22_.Kind_, x22_.N_] : List Int)) hb27_1_.1 (hg.up (hI.le.trans (hb27_0_.2.1.trans hb27_1_.2.1))) ho5_16.cap (hb27_0_.2.2.up hb27_1_.2.1) (Nat.le_refl _) hb27_1_.2.2 h).mono ?_
    have hlo27_0_ho5_16 := ho5_16.lt
    rintro _ w27_ ⟨A27_0, c27_0, r27_0, L27_, H27_, rfl, hI27_, ho27_0, h⟩
    refine Exists.elim (hI.callB (hb27_0_.2.1.trans hb27_1_.2.1) hI27_ (by simp)) fun L270_ h27_ => Exists.elim h27_ fun H270_ h27_ => ?_
    have hz27_ := hI.size
    replace hI := h27_.1
    have u27_ := h27_.2.1
    have hl27_ := h27_.2.2.1
    have hh27_ := h27_.2.2.2
    clear h27_
    replace hs0_1 := hs0_1.up u27_.hh
    replace hll14_ := hll14_.trans u27_.ll
    replace hhh14_ := hhh14_.trans u27_.hh
    replace ho5_16 := ho5_16.up (Le.refl _) u27_ (by simp)
    replace hll16_ := hll16_.trans u27_.ll
    replace hhh16_ := hhh16_.trans u27_.hh
    replace ht23_ := ht23_.up u27_ (by simp)
    have hsp27_0_ho5_16 : ∀ i ∈ bk A27_0 c27_0, i ∉ bk A5_16 c5_16 := sep_new ho27_0.off hlo27_0_ho5_16
    replace ho27_0 := OwnS.backS ho27_0 hz27_ hh27_
    clear hI27_ u27_ hl27_
    refine ⟨_, rfl, ⟨(ht23_.blk.at_ rfl), trivial⟩, ?_⟩
    refine Exists.elim (ho27_0.freeze hI) fun L28_ h28_ => Exists.elim h28_ fun H28_ h28_ => ?_
    replace hI := h28_.1
    have u28_ := h28_.2.1
    have hs28_ := h28_.2.2.1 (Le.no _)
    have hc28_ := ho27_0.cap
    replace hs0_1 := hs0_1.up u28_.hh
    replace hll14_ := hll14_.trans u28_.ll
    replace hhh14_ := hhh14_.trans u28_.hh
    replace ho5_16 := ho5_16.up (Le.refl _) u28_ (sep_sym hsp27_0_ho5_16)
    replace hll16_ := hll16_.trans u28_.ll
    replace hhh16_ := hhh16_.trans u28_.hh
    replace ht23_ := ht23_.up u28_ (ht23_.sep ho27_0 (by decide))
    clear h28_ u28_ ho27_0
    refine HS_call [] _ rfl (by rw [hops25_]; kernel_rfl) (C_func bd53 rfl) rfl rfl ?_
    refine (octet_PutText_ok (x0 := r27_0) (x1 := x22_.Text_) hI.st (hg.up hI.le) hc28_ (hs28_.up hI.sub) h).mono ?_
    have hlo29_0_ho5_16 := ho5_16.lt
    rintro _ w29_ ⟨A29_0, c29_0, r29_0, L29_, H29_, rfl, hI29_, ho29_0, h⟩
    refine Exists.elim (hI.call hI29_ (by simp)) fun L290_ h29_ => ?_
    have hz29_ := hI.size
    replace hI := h29_.1
    have u29_ := h29_.2.1
    have hl29_ := h29_.2.2
    clear h29_
    replace hs0_1 := hs0_1.up u29_.hh
    replace hll14_ := hll14_.trans u29_.ll
    replace hhh14_ := hhh14_.trans u29_.hh
    replace ho5_16 := ho5_16.up (Le.refl _) u29_ (by simp)
    replace hll16_ := hll16_.trans u29_.ll
    replace hhh16_ := hhh16_.trans u29_.hh
    replace ht23_ := ht23_.up u29_ (by simp)
    have hsp29_0_ho5_16 : ∀ i ∈ bk A29_0 c29_0, i ∉ bk A5_16 c5_16 := sep_new ho29_0.off hlo29_0_ho5_16
    replace ho29_0 := OwnS.backS ho29_0 hz29_ (Le.refl _)
    clear hI29_ u29_ hl29_
    refine ⟨_, rfl, trivial, ?_⟩
    refine HSp (R_assign rfl) rfl rfl ?_
    refine HS_nil ?_
    clear hops25_
    refine block_n ?_
    refine then_n (k20 _ _ ?_)
    clear k20 K20
    refine W_keepB [5, 35, 36, 37] fun B_ b_ => ?_
    simp only [e_, Nat.reduceAdd, Nat.reduceBEq] at b_
    subst b_
    refine W_region [51, 37] rfl ?_
    have hk31_ := h.1
    replace h := h.2
    refine Ops_step (R_add rfl rfl (wI hk31_.1 hk31_.2)) rfl rfl (Ops_step (R_move rfl) rfl rfl ?_)
    refine Ops_nil ?_
    refine then_n ?_
    exact h.elim fun m_ h => ⟨m_, _, h.1, rfl, ⟨r29_0, A29_0, c29_0, (x37_16 + 1), _, _, rfl, h.2, hI, hll16_, hhh16_, ho29_0, trivial⟩, ⟨rfl, rfl, trivial⟩⟩
   ·
    replace h := h.2 hc19_
    refine W_exit ?_
    refine then_exit ?_
    clear k18 K18
    refine then_exit ?_
    refine block_exit ?_
    refine then_n ?_
    exact ⟨_, rfl, ⟨x5_16, A5_16, c5_16, _, _, rfl, h, hI, hll14_, hhh14_, ho5_16, trivial⟩, trivial⟩
  ·
   simp only [e_, Nat.reduceAdd, Nat.reduceBEq] at b_
   subst b_
   clear h
   rintro _ w14_ ⟨x5_14, A5_14, c5_14, L14_, H14_, rfl, hJ14_, hI14_, hll14_, hhh14_, ho5_14, -⟩
   replace hI := hI14_
   clear hI14_
   have h := hr14_ x5_14 hJ14_
   clear hr14_ hJ14_
   refine W_seq_k fun K32 k32 => ?_
   refine W_region [52, 2, 3] rfl (Ops_step (R_move rfl) rfl rfl (Ops_step (R_assign rfl) rfl rfl (Ops_step (R_assign rfl) rfl rfl ?_)))
   refine Ops_nil ?_
   refine then_n (k32 _ _ ?_)
   clear k32 K32
   refine W_ret ?_
   refine ⟨_, ⟨_, _, rfl, rfl, ⟨_, _, rfl, rfl, rfl⟩⟩, ?_⟩
   exact ⟨A5_14, c5_14, x5_14, 0, _, _, rfl, hI, (ho5_14.hl (Le.no _)), h⟩

theorem frame_Get_ok {G : Gh} {w : World} (hS : St G w) (hg : GL G) {A0 : Option Addr} {c0 : Nat} {x0 : List UInt8} (hc0 : x0.length ≤ c0) (hs0 : Sl G A0 x0) {Q : api_Msg → Int → Prop} (h : frame_Get x0 Q) : Calls Tryd.prog 32 #[.slice A0 x0.length c0] w fun e w2 => ∃ (l0 : List Value) (r0 : api_Msg) (r1 : Int) (L H : Gh), e = .returned (.tuple #[.agg l0.toArray, vi r1]) ∧ Inv [] G w L H w2 ∧ Rp.cs H r0 l0 ∧ Q r0 r1 := by
 unfold frame_Get at h
 have hI := Inv.start (M := []) hS
 refine calls_W 52 Tryd.func32 rfl Tryd.ntmps32 rfl [.cell 2 25, .tmp 3] rfl ?_
 refine W_seq_k fun K1 k1 => ?_
 refine W_region [2, 3] rfl ?_
 have hI0_ := hI
 refine Ops_to (R_alloc zr25) rfl rfl ?_
 rintro _ w2_ ⟨b2_, rfl, hb2_, hB2_, hF2_⟩
 replace hI := hI.fr0 hF2_
 have ht2_ : Tok G _ b2_ 25 ([vi 0, vi 0, vi 0, vi 0, vi 0, vi 0, vi 0, vi 0, .slice none 0 0]) := ⟨hB2_.to rfl, Out.ge hI0_.st (Nat.le_of_eq hb2_.symm)⟩
 have hge_b2_ : w.heap.size ≤ b2_ := hb2_ ▸ hI0_.size
 clear hB2_ hb2_ hI0_ hF2_
 refine Ops_step (R_assign rfl) rfl rfl ?_
 refine Ops_nil ?_
 refine then_n (k1 _ _ ?_)
 clear k1 K1
 refine W_seq_k fun K3 k3 => ?_
 refine W_region [6, 7, 4] rfl (Ops_step (R_move rfl) rfl rfl ?_)
 refine Ops_call (C_func bd44 rfl) rfl rfl ?_
 refine (octet_Read_ok (x0 := x0) hI.st (hg.up hI.le) hc0 hs0 h).mono ?_
 rintro _ w4_ ⟨d4_0, r4_0, L4_, H4_, rfl, hI4_, hge_d4_0, hr4_0, h⟩
 have hge0_4 := hge_d4_0
 replace hge_d4_0 := Nat.le_trans hI.size hge_d4_0
 refine Exists.elim (hI.call hI4_ (by simp)) fun L40_ h4_ => ?_
 have hz4_ := hI.size
 replace hI := h4_.1
 have u4_ := h4_.2.1
 have hl4_ := h4_.2.2
 clear h4_
 replace ht2_ := ht2_.up u4_ (by simp)
 replace hr4_0 := hr4_0.back hl4_ (Le.refl _)
 obtain ⟨l4_0_, hl4_0_, ht4_0⟩ := hr4_0
 obtain ⟨A4_0_1, c4_0_1, rfl, ⟨hc4_0_1, hs4_0_1⟩⟩ := hl4_0_
 clear hI4_ u4_ hl4_
 refine ⟨_, rfl, ?_⟩
 refine Ops_step (R_assign rfl) rfl rfl ?_
 refine Ops_nil ?_
 refine then_n (k3 _ _ ?_)
 clear k3 K3
 refine W_seq_k fun K5 k5 => ?_
 refine W_region [8, 9, 10, 11, 12, 13, 14, 15, 16, 17, 18, 19, 20, 21, 22, 23, 24, 5, none] rfl (Ops_step (R_move rfl) rfl rfl ?_)
 refine Ops_call (C_func bd62 rfl) rfl rfl ?_
 refine (octet_Reader_Number_ok (x0 := r4_0) hI.st (hg.up hI.le) ⟨_, ⟨A4_0_1, c4_0_1, rfl, ⟨hc4_0_1, (hs4_0_1.up hI.sub)⟩⟩, ht4_0⟩ h).mono ?_
 rintro _ w6_ ⟨r6_0, y6_0, L6_, H6_, rfl, hI6_, hq6_0, h⟩
 refine Exists.elim (hI.call hI6_ (new1 hge_d4_0)) fun L60_ h6_ => ?_
 have hz6_ := hI.size
 replace hI := h6_.1
 have u6_ := h6_.2.1
 have hl6_ := h6_.2.2
 clear h6_
 replace ht2_ := ht2_.up u6_ (ht2_.apart ht4_0 (by decide))
 replace hs4_0_1 := hs4_0_1.up u6_.ll
 clear ht4_0
 obtain ⟨l6_0_, hl6_0_, ht6_0⟩ := hq6_0
 obtain ⟨A6_0_1, c6_0_1, rfl, ⟨hc6_0_1, hs6_0_1⟩⟩ := hl6_0_
 clear hI6_ u6_ hl6_
 refine ⟨_, rfl, ?_⟩
 refine Ops_step (R_move rfl) rfl rfl ?_
 refine Ops_call (C_func bd62 rfl) rfl rfl ?_
 refine (octet_Reader_Number_ok (x0 := y6_0) hI.st (hg.up hI.le) ⟨_, ⟨A6_0_1, c6_0_1, rfl, ⟨hc6_0_1, hs6_0_1⟩⟩, ht6_0⟩ h).mono ?_
 rintro _ w7_ ⟨r7_0, y7_0, L7_, H7_, rfl, hI7_, hq7_0, h⟩
 refine Exists.elim (hI.call hI7_ (new1 hge_d4_0)) fun L70_ h7_ => ?_
 have hz7_ := hI.size
 replace hI := h7_.1
 have u7_ := h7_.2.1
 have hl7_ := h7_.2.2
 clear h7_
 replace ht2_ := ht2_.up u7_ (ht2_.apart ht6_0 (by decide))
 replace hs6_0_1 := hs6_0_1.up u7_.hh
 clear ht6_0
 obtain ⟨l7_0_, hl7_0_, ht7_0⟩ := hq7_0
 obtain ⟨A7_0_1, c7_0_1, rfl, ⟨hc7_0_1, hs7_0_1⟩⟩ := hl7_0_
 clear hI7_ u7_ hl7_
 refine ⟨_, rfl, ?_⟩
 refine Ops_step (R_move rfl) rfl rfl ?_
 refine Ops_call (C_func bd62 rfl) rfl rfl ?_
 refine (octet_Reader_Number_ok (x0 := y7_0) hI.st (hg.up hI.le) ⟨_, ⟨A7_0_1, c7_0_1, rfl, ⟨hc7_0_1, hs7_0_1⟩⟩, ht7_0⟩ h).mono ?_
 rintro _ w8_ ⟨r8_0, y8_0, L8_, H8_, rfl, hI8_, hq8_0, h⟩
 refine Exists.elim (hI.call hI8_ (new1 hge_d4_0)) fun L80_ h8_ => ?_
 have hz8_ := hI.size
 replace hI := h8_.1
 have u8_ := h8_.2.1
 have hl8_ := h8_.2.2
 clear h8_
 replace ht2_ := ht2_.up u8_ (ht2_.apart ht7_0 (by decide))
 replace hs7_0_1 := hs7_0_1.up u8_.hh
 clear ht7_0
 obtain ⟨l8_0_, hl8_0_, ht8_0⟩ := hq8_0
 obtain ⟨A8_0_1, c8_0_1, rfl, ⟨hc8_0_1, hs8_0_1⟩⟩ := hl8_0_
 clear hI8_ u8_ hl8_
 refine ⟨_, rfl, ?_⟩
 refine Ops_step (R_move rfl) rfl rfl ?_
 refine Ops_call (C_func bd62 rfl) rfl rfl ?_
 refine (octet_Reader_Number_ok (x0 := y8_0) hI.st (hg.up hI.le) ⟨_, ⟨A8_0_1, c8_0_1, rfl, ⟨hc8_0_1, hs8_0_1⟩⟩, ht8_0⟩ h).mono ?_
 rintro _ w9_ ⟨r9_0, y9_0, L9_, H9_, rfl, hI9_, hq9_0, h⟩
 refine Exists.elim (hI.call hI9_ (new1 hge_d4_0)) fun L90_ h9_ => ?_
 have hz9_ := hI.size
 replace hI := h9_.1
 have u9_ := h9_.2.1
 have hl9_ := h9_.2.2
 clear h9_
 replace ht2_ := ht2_.up u9_ (ht2_.apart ht8_0 (by decide))
 replace hs8_0_1 := hs8_0_1.up u9_.hh
 clear ht8_0
 obtain ⟨l9_0_, hl9_0_, ht9_0⟩ := hq9_0
 obtain ⟨A9_0_1, c9_0_1, rfl, ⟨hc9_0_1, hs9_0_1⟩⟩ := hl9_0_
 clear hI9_ u9_ hl9_
 refine ⟨_, rfl, ?_⟩
 refine Ops_step (R_move rfl) rfl rfl ?_
 refine Ops_call (C_func bd62 rfl) rfl rfl ?_
 refine (octet_Reader_Number_ok (x0 := y9_0) hI.st (hg.up hI.le) ⟨_, ⟨A9_0_1, c9_0_1, rfl, ⟨hc9_0_1, hs9_0_1⟩⟩, ht9_0⟩ h).mono ?_
 rintro _ w10_ ⟨r10_0, y10_0, L10_, H10_, rfl, hI10_, hq10_0, h⟩
 refine Exists.elim (hI.call hI10_ (new1 hge_d4_0)) fun L100_ h10_ => ?_
 have hz10_ := hI.size
 replace hI := h10_.1
 have u10_ := h10_.2.1
 have hl10_ := h10_.2.2
 clear h10_
 replace ht2_ := ht2_.up u10_ (ht2_.apart ht9_0 (by decide))
 replace hs9_0_1 := hs9_0_1.up u10_.hh
 clear ht9_0
 obtain ⟨l10_0_, hl10_0_, ht10_0⟩ := hq10_0
 obtain ⟨A10_0_1, c10_0_1, rfl, ⟨hc10_0_1, hs10_0_1⟩⟩ := hl10_0_
 clear hI10_ u10_ hl10_
 refine ⟨_, rfl, ?_⟩
 refine Ops_step (R_move rfl) rfl rfl ?_
 refine Ops_call (C_func bd62 rfl) rfl rfl ?_
 refine (octet_Reader_Number_ok (x0 := y10_0) hI.st (hg.up hI.le) ⟨_, ⟨A10_0_1, c10_0_1, rfl, ⟨hc10_0_1, hs10_0_1⟩⟩, ht10_0⟩ h).mono ?_
 rintro _ w11_ ⟨r11_0, y11_0, L11_, H11_, rfl, hI11_, hq11_0, h⟩
 refine Exists.elim (hI.call hI11_ (new1 hge_d4_0)) fun L110_ h11_ => ?_
 have hz11_ := hI.size
 replace hI := h11_.1
 have u11_ := h11_.2.1
 have hl11_ := h11_.2.2
 clear h11_
 replace ht2_ := ht2_.up u11_ (ht2_.apart ht10_0 (by decide))
 replace hs10_0_1 := hs10_0_1.up u11_.hh
 clear ht10_0
 obtain ⟨l11_0_, hl11_0_, ht11_0⟩ := hq11_0
 obtain ⟨A11_0_1, c11_0_1, rfl, ⟨hc11_0_1, hs11_0_1⟩⟩ := hl11_0_
 clear hI11_ u11_ hl11_
 refine ⟨_, rfl, ?_⟩
 refine Ops_step (R_move rfl) rfl rfl ?_
 refine Ops_call (C_func bd62 rfl) rfl rfl ?_
 refine (octet_Reader_Number_ok (x0 := y11_0) hI.st (hg.up hI.le) ⟨_, ⟨A11_0_1, c11_0_1, rfl, ⟨hc11_0_1, hs11_0_1⟩⟩, ht11_0⟩ h).mono ?_
 rintro _ w12_ ⟨r12_0, y12_0, L12_, H12_, rfl, hI12_, hq12_0, h⟩
 refine Exists.elim (hI.call hI12_ (new1 hge_d4_0)) fun L120_ h12_ => ?_
 have hz12_ := hI.size
 replace hI := h12_.1
 have u12_ := h12_.2.1
 have hl12_ := h12_.2.2
 clear h12_
 replace ht2_ := ht2_.up u12_ (ht2_.apart ht11_0 (by decide))
 replace hs11_0_1 := hs11_0_1.up u12_.hh
 clear ht11_0
 obtain ⟨l12_0_, hl12_0_, ht12_0⟩ := hq12_0
 obtain ⟨A12_0_1, c12_0_1, rfl, ⟨hc12_0_1, hs12_0_1⟩⟩ := hl12_0_
 clear hI12_ u12_ hl12_
 refine ⟨_, rfl, ?_⟩
 refine Ops_step (R_move rfl) rfl rfl ?_
 refine Ops_call (C_func bd45 rfl) rfl rfl ?_
 refine (octet_Reader_Within_ok (x0 := y12_0) (x1 := 0) (x2 := 1000) hI.st (hg.up hI.le) ⟨_, ⟨A12_0_1, c12_0_1, rfl, ⟨hc12_0_1, hs12_0_1⟩⟩, ht12_0⟩ h).mono ?_
 rintro _ w13_ ⟨r13_0, y13_0, L13_, H13_, rfl, hI13_, hq13_0, h⟩
 refine Exists.elim (hI.call hI13_ (new1 hge_d4_0)) fun L130_ h13_ => ?_
 have hz13_ := hI.size
 replace hI := h13_.1
 have u13_ := h13_.2.1
 have hl13_ := h13_.2.2
 clear h13_
 replace ht2_ := ht2_.up u13_ (ht2_.apart ht12_0 (by decide))
 replace hs12_0_1 := hs12_0_1.up u13_.hh
 clear ht12_0
 obtain ⟨l13_0_, hl13_0_, ht13_0⟩ := hq13_0
 obtain ⟨A13_0_1, c13_0_1, rfl, ⟨hc13_0_1, hs13_0_1⟩⟩ := hl13_0_
 clear hI13_ u13_ hl13_
 refine ⟨_, rfl, ?_⟩
 refine Ops_step (R_build (pl := [(0, 1), (1, 1), (2, 1), (3, 1), (4, 1), (5, 1), (6, 1), (7, 1)]) (cs := [vi r6_0, vi r7_0, vi r8_0, vi r9_0, vi r10_0, vi r11_0, vi r12_0, vi r13_0, .slice none 0 0]) zr25 pl25 rfl rfl rfl) rfl rfl ?_
 have hlo14_b2_ := ht2_.blk.lt
 have hI0_ := hI
 refine Ops_to (R_alloc zr25) rfl rfl ?_
 rintro _ w14_ ⟨b14_, rfl, hb14_, hB14_, hF14_⟩
 replace hI := hI.fr0 hF14_
 replace ht2_ := ht2_.fr0 hF14_
 replace ht13_0 := ht13_0.fr0 hF14_
 have ht14_ : Tok H13_ _ b14_ 25 ([vi 0, vi 0, vi 0, vi 0, vi 0, vi 0, vi 0, vi 0, .slice none 0 0]) := ⟨hB14_.to rfl, Out.ge hI0_.st (Nat.le_of_eq hb14_.symm)⟩
 have hge_b14_ : w.heap.size ≤ b14_ := hb14_ ▸ hI0_.size
 have hne14_b2_ : b2_ ≠ b14_ := fun e_ => absurd hlo14_b2_ (by omega)
 clear hB14_ hb14_ hI0_ hF14_
 refine Ops_to0 (R_storeN sz25 rfl rfl rfl ht14_.blk (Nat.le_of_ble_eq_true rfl) rfl) rfl ?_
 rintro _ w15_ ⟨hB15_, hF15_⟩
 replace hI := hI.tok hF15_ (out1 ht14_.out) (new1 hge_b14_)
 replace ht2_ := ht2_.fr hF15_ (ne1 hne14_b2_)
 replace ht13_0 := ht13_0.fr hF15_ (ht13_0.apart ht14_ (by decide))
 replace ht14_ : Tok H13_ _ b14_ 25 ([vi r6_0, vi r7_0, vi r8_0, vi r9_0, vi r10_0, vi r11_0, vi r12_0, vi r13_0, .slice none 0 0]) := ⟨hB15_, ht14_.out⟩
 clear hF15_ hB15_
 refine Ops_nil ?_
 refine then_n (k5 _ _ ?_)
 clear k5 K5
 refine W_keepB [2, 4, 5] fun B_ b_ => ?_
 simp only [e_, Nat.reduceAdd, Nat.reduceBEq] at b_
 subst b_
 refine ex_ h fun J17_ hr17_ h => ?_
 refine W_seq_join [2, 4, 5] [] (fun vals_ w2 => ∃ (yd4_0_17 : octet_Reader) (yb14__17 : api_Msg) (Ab14__17_8 : Option Addr) (cb14__17_8 : Nat) (L H : Gh), vals_ = [] ∧ J17_ yd4_0_17 yb14__17 ∧ Inv [] G w L H w2 ∧ Le L130_ L ∧ Le H13_ H ∧ Ob 88 H H w2 d4_0 yd4_0_17 ∧ Tok H w2 b14_ 25 [vi yb14__17.Kind_, vi yb14__17.Who_, vi yb14__17.Seq_, vi yb14__17.Rev_, vi yb14__17.At_, vi yb14__17.N_, vi yb14__17.Target_, vi yb14__17.Err_, .slice Ab14__17_8 yb14__17.Edit_.length cb14__17_8] ∧ OwnS w.heap.size 54 H H w2 Ab14__17_8 cb14__17_8 yb14__17.Edit_ ∧ Tok H w2 b2_ 25 ([vi 0, vi 0, vi 0, vi 0, vi 0, vi 0, vi 0, vi 0, .slice none 0 0]) ∧ True) (fun B_ b_ => ?_) (fun B_ b_ => ?_)
 ·
  simp only [e_, Nat.reduceAdd, Nat.reduceBEq] at b_
  subst b_
  clear hr17_
  have hll17_ := Le.refl L130_
  have hhh17_ := Le.refl H13_
  refine W_seq_k fun K18 k18 => ?_
  refine W_region [25, 26, 27] rfl (Ops_step (R_move rfl) rfl rfl ?_)
  refine Ops_call (C_func bd45 rfl) rfl rfl ?_
  refine (octet_Reader_Within_ok (x0 := y13_0) (x1 := 0) (x2 := 400) hI.st (hg.up hI.le) ⟨_, ⟨A13_0_1, c13_0_1, rfl, ⟨hc13_0_1, hs13_0_1⟩⟩, ht13_0⟩ h).mono ?_
  rintro _ w19_ ⟨r19_0, y19_0, L19_, H19_, rfl, hI19_, hq19_0, h⟩
  refine Exists.elim (hI.call hI19_ (new1 hge_d4_0)) fun L190_ h19_ => ?_
  have hz19_ := hI.size
  replace hI := h19_.1
  have u19_ := h19_.2.1
  have hl19_ := h19_.2.2
  clear h19_
  replace ht2_ := ht2_.up u19_ (ht2_.apart ht13_0 (by decide))
  replace hs13_0_1 := hs13_0_1.up u19_.hh
  replace ht14_ := ht14_.up u19_ (ht14_.apart ht13_0 (by decide))
  replace hll17_ := hll17_.trans u19_.ll
  replace hhh17_ := hhh17_.trans u19_.hh
  clear ht13_0
  obtain ⟨l19_0_, hl19_0_, ht19_0⟩ := hq19_0
  obtain ⟨A19_0_1, c19_0_1, rfl, ⟨hc19_0_1, hs19_0_1⟩⟩ := hl19_0_
  clear hI19_ u19_ hl19_
  refine ⟨_, rfl, ?_⟩
  refine Ops_step (R_move rfl) rfl rfl ?_
  refine Ops_nil ?_
  refine then_n (k18 _ _ ?_)
  clear k18 K18
  refine W_block ?_
  refine Exists.elim h fun I20_ h => Exists.elim h fun n20_ h => ?_
  have h0_ := h.1
  have hs20_ := h.2
  clear h
  refine W_loopB [2, 4, 5, 26] [27] (fun m vals_ w2 => ∃ (x27_20 : Int) (yb14__20 : api_Msg) (Ab14__20_8 : Option Addr) (cb14__20_8 : Nat) (yd4_0_20 : octet_Reader) (L H : Gh), vals_ = [vi x27_20] ∧ I20_ m x27_20 yb14__20 yd4_0_20 ∧ Inv [] G w L H w2 ∧ Le L190_ L ∧ Le H19_ H ∧ Tok H w2 b14_ 25 [vi yb14__20.Kind_, vi yb14__20.Who_, vi yb14__20.Seq_, vi yb14__20.Rev_, vi yb14__20.At_, vi yb14__20.N_, vi yb14__20.Target_, vi yb14__20.Err_, .slice Ab14__20_8 yb14__20.Edit_.length cb14__20_8] ∧ OwnS w.heap.size 54 H H w2 Ab14__20_8 cb14__20_8 yb14__20.Edit_ ∧ Ob 88 H H w2 d4_0 yd4_0_20 ∧ Tok H w2 b2_ 25 ([vi 0, vi 0, vi 0, vi 0, vi 0, vi 0, vi 0, vi 0, .slice none 0 0]) ∧ True) n20_ _ rfl ⟨0, (api_Msg.mk r6_0 r7_0 r8_0 r9_0 r10_0 r11_0 r12_0 r13_0 []), none, 0, y19_0, _, _, rfl, h0_, hI, Le.refl _, Le.refl _, ht14_, OwnS.nil, ⟨_, ⟨A19_0_1, c19_0_1, rfl, ⟨hc19_0_1, hs19_0_1⟩⟩, ht19_0⟩, ht2_, trivial⟩ fun B_ b_ => ?_
  clear h0_
  simp only [e_, Nat.reduceAdd, Nat.reduceBEq] at b_
  subst b_
  clear ht2_
  rintro m20_ _ w20_ ⟨x27_20, yb14__20, Ab14__20_8, cb14__20_8, yd4_0_20, L20_, H20_, rfl, hJ20_, hI20_, hll20_, hhh20_, htb14__20, hob14__20_8, hqd4_0_20, ht2_, -⟩
  replace hI := hI20_
  clear hI20_
  have h := hs20_ m20_ x27_20 yb14__20 yd4_0_20 hJ20_
  clear hs20_ hJ20_
  replace hll17_ := hll17_.trans hll20_
  replace hhh17_ := hhh17_.trans hhh20_
  replace hs19_0_1 := hs19_0_1.up hhh20_
  obtain ⟨ld4_0_20_, hld4_0_20_, htd4_0_20⟩ := hqd4_0_20
  obtain ⟨Ad4_0_20_1, cd4_0_20_1, rfl, ⟨hcd4_0_20_1, hsd4_0_20_1⟩⟩ := hld4_0_20_
  refine W_seq_k fun K21 k21 => ?_
  refine W_region [28] rfl (Ops_step (R_lss rfl rfl) rfl rfl ?_)
  refine Ops_nil ?_
  refine then_n (k21 _ _ ?_)
  clear k21 K21
  refine W_seq_k fun K22 k22 => ?_
  refine W_if rfl (fun hc23_ => ?_) (fun hc23_ => ?_)
  ·
   replace h := h.1 hc23_
   refine W_skip ?_
   refine then_n (k22 _ _ ?_)
   clear k22 K22
   refine W_seq_k fun K24 k24 => ?_
   refine W_block ?_
   refine W_drawF [29, 30, 31, 32, 33, 34, 35, 36, 37, 38, 39, 40, none] [(0, true), (1, true), (2, true), (4, true), (6, true), (3, false), (5, false), (7, false), (8, true), (9, false), (10, false), (11, true), (12, false)] TFtF.hm rfl (by kernel_rfl) fun ops25_ w25_ hops25_ hF25_ => ?_
   replace hI := hI.fr0 hF25_
   replace ht2_ := ht2_.fr0 hF25_
   replace htb14__20 := htb14__20.fr0 hF25_
   replace hob14__20_8 := hob14__20_8.fr0 hF25_
   replace htd4_0_20 := htd4_0_20.fr0 hF25_
   clear hF25_
   refine HSp (R_fieldAddr fo25_8 rfl) rfl rfl ?_
   refine HS_loadB (v := .slice Ab14__20_8 yb14__20.Edit_.length cb14__20_8) ag23 rfl htb14__20.blk rfl rfl rfl ?_
   refine HSp (R_move rfl) rfl rfl (HSp (R_move rfl) rfl rfl (HSp (R_move rfl) rfl rfl ?_))
   refine HS_call [1] _ rfl (by rw [hops25_]; kernel_rfl) (C_func bd62 rfl) rfl rfl ?_
   refine (octet_Reader_Number_ok (x0 := yd4_0_20) hI.st (hg.up hI.le) ⟨_, ⟨Ad4_0_20_1, cd4_0_20_1, rfl, ⟨hcd4_0_20_1, hsd4_0_20_1⟩⟩, htd4_0_20⟩ h).mono ?_
   rintro _ w26_ ⟨r26_0, y26_0, L26_, H26_, rfl, hI26_, hq26_0, h⟩
   refine Exists.elim (hI.call hI26_ (new1 hge_d4_0)) fun L260_ h26_ => ?_
   have hz26_ := hI.size
   replace hI := h26_.1
   have u26_ := h26_.2.1
   have hl26_ := h26_.2.2
   clear h26_
   replace hll17_ := hll17_.trans u26_.ll
   replace hhh17_ := hhh17_.trans u26_.hh
   replace ht2_ := ht2_.up u26_ (ht2_.apart htd4_0_20 (by decide))
   replace htb14__20 := htb14__20.up u26_ (htb14__20.apart htd4_0_20 (by decide))
   replace hob14__20_8 := hob14__20_8.up u26_.hh u26_ (hob14__20_8.ne htd4_0_20.blk (by decide))
   replace hsd4_0_20_1 := hsd4_0_20_1.up u26_.hh
   replace hll20_ := hll20_.trans u26_.ll
   replace hhh20_ := hhh20_.trans u26_.hh
   clear htd4_0_20
   obtain ⟨l26_0_, hl26_0_, ht26_0⟩ := hq26_0
   obtain ⟨A26_0_1, c26_0_1, rfl, ⟨hc26_0_1, hs26_0_1⟩⟩ := hl26_0_
   clear hI26_ u26_ hl26_
   refine ⟨_, rfl, ⟨(htb14__20.blk.at_ rfl), trivial⟩, ?_⟩
   refine HS_call [1] _ rfl (by rw [hops25_]; kernel_rfl) (C_func bd62 rfl) rfl rfl ?_
   refine (octet_Reader_Number_ok (x0 := y26_0) hI.st (hg.up hI.le) ⟨_, ⟨A26_0_1, c26_0_1, rfl, ⟨hc26_0_1, hs26_0_1⟩⟩, ht26_0⟩ h).mono ?_
   rintro _ w27_ ⟨r27_0, y27_0, L27_, H27_, rfl, hI27_, hq27_0, h⟩
   refine Exists.elim (hI.call hI27_ (new1 hge_d4_0)) fun L270_ h27_ => ?_
   have hz27_ := hI.size
   replace hI := h27_.1
   have u27_ := h27_.2.1
   have hl27_ := h27_.2.2
   clear h27_
   replace hll17_ := hll17_.trans u27_.ll
   replace hhh17_ := hhh17_.trans u27_.hh
   replace ht2_ := ht2_.up u27_ (ht2_.apart ht26_0 (by decide))
   replace htb14__20 := htb14__20.up u27_ (htb14__20.apart ht26_0 (by decide))
   replace hob14__20_8 := hob14__20_8.up u27_.hh u27_ (hob14__20_8.ne ht26_0.blk (by decide))
   replace hll20_ := hll20_.trans u27_.ll
   replace hhh20_ := hhh20_.trans u27_.hh
   replace hs26_0_1 := hs26_0_1.up u27_.hh
   clear ht26_0
   obtain ⟨l27_0_, hl27_0_, ht27_0⟩ := hq27_0
   obtain ⟨A27_0_1, c27_0_1, rfl, ⟨hc27_0_1, hs27_0_1⟩⟩ := hl27_0_
   clear hI27_ u27_ hl27_
   refine ⟨_, rfl, ⟨(htb14__20.blk.at_ rfl), trivial⟩, ?_⟩
   refine HS_call [1] _ rfl (by rw [hops25_]; kernel_rfl) (C_func bd63 rfl) rfl rfl ?_
   refine (octet_Reader_Text_ok (x0 := y27_0) (x1 := 256) hI.st (hg.up hI.le) ⟨_, ⟨A27_0_1, c27_0_1, rfl, ⟨hc27_0_1, hs27_0_1⟩⟩, ht27_0⟩ h).mono ?_
   rintro _ w28_ ⟨r28_0, y28_0, L28_, H28_, rfl, hI28_, hq28_0, h⟩
   refine Exists.elim (hI.call hI28_ (new1 hge_d4_0)) fun L280_ h28_ => ?_
   have hz28_ := hI.size
   replace hI := h28_.1
   have u28_ := h28_.2.1
   have hl28_ := h28_.2.2
   clear h28_
   replace hll17_ := hll17_.trans u28_.ll
   replace hhh17_ := hhh17_.trans u28_.hh
   replace ht2_ := ht2_.up u28_ (ht2_.apart ht27_0 (by decide))
   replace htb14__20 := htb14__20.up u28_ (htb14__20.apart ht27_0 (by decide))
   replace hob14__20_8 := hob14__20_8.up u28_.hh u28_ (hob14__20_8.ne ht27_0.blk (by decide))
   replace hll20_ := hll20_.trans u28_.ll
   replace hhh20_ := hhh20_.trans u28_.hh
   replace hs27_0_1 := hs27_0_1.up u28_.hh
   clear ht27_0
   obtain ⟨l28_0_, hl28_0_, ht28_0⟩ := hq28_0
   obtain ⟨A28_0_1, c28_0_1, rfl, ⟨hc28_0_1, hs28_0_1⟩⟩ := hl28_0_
   clear hI28_ u28_ hl28_
   refine ⟨_, rfl, ⟨(htb14__20.blk.at_ rfl), trivial⟩, ?_⟩
   refine HSp (R_build (pl := [(0, 1), (1, 1), (2, 1)]) (cs := [vi r26_0, vi r27_0, vs r28_0]) zr54 pl54 rfl rfl rfl) rfl rfl ?_
   have hlo29_hob14__20_8 := hob14__20_8.lt
   refine HS_to [1] _ rfl (by rw [hops25_]; kernel_rfl) (R_buildSlice el23 zr54 (by decide) (by decide) rfl rfl) rfl rfl ?_
   rintro _ w29_ ⟨b29_, rfl, hb29_, hB29_, hF29_⟩
   have ho29_ : OwnS w.heap.size 54 L280_ H28_ _ (some ⟨b29_, 0, none⟩) 1 ([(api_Part.mk r26_0 r27_0 r28_0)] : List api_Part) := OwnS.ofBlk (css := [[vi r26_0, vi r27_0, vs r28_0]]) hI.st hb29_ hB29_ (.cons rfl .nil) rfl (by have := hI.size; omega) (by show 1 ≤ maxLen; decide)
   replace hI := hI.fr0 hF29_
   replace ht2_ := ht2_.fr0 hF29_
   replace htb14__20 := htb14__20.fr0 hF29_
   replace hob14__20_8 := hob14__20_8.fr0 hF29_
   replace ht28_0 := ht28_0.fr0 hF29_
   clear hF29_ hB29_
   have hsp29_hob14__20_8 : ∀ i ∈ bk (some ⟨b29_, 0, none⟩) 1, i ∉ bk Ab14__20_8 cb14__20_8 := sep_new (fun i_ hi_ => by have := (bk_of hi_).1; simp only [blkOf, List.mem_singleton] at this; omega) hlo29_hob14__20_8
   refine ⟨⟨(htb14__20.blk.at_ rfl), trivial⟩, ?_⟩
   have hk31_ := h.1
   replace h := h.2
   refine HS_to [] _ rfl (by rw [hops25_]; kernel_rfl) (X_append (α := api_Part) (xs := yb14__20.Edit_) (ys := ([(api_Part.mk r26_0 r27_0 r28_0)] : List api_Part)) el23 rfl rfl hob14__20_8 ((Srcs.ofOwn Tryd.underlying23 ho29_ (by decide)).up hI.sub) hI.st hk31_ (by decide) hI.size) rfl rfl ?_
   rintro _ w30_ ⟨A30_, c30_, rfl, ho30_, hF30_, hbk30_⟩
   clear hbk30_
   replace hI := hI.tok hF30_ hob14__20_8.out (hob14__20_8.new (Nat.le_refl _))
   replace ht2_ := ht2_.fr hF30_ (ht2_.sep hob14__20_8 (by decide))
   replace htb14__20 := htb14__20.fr hF30_ (htb14__20.sep hob14__20_8 (by decide))
   replace ht28_0 := ht28_0.fr hF30_ (ht28_0.sep hob14__20_8 (by decide))
   clear hF30_ hob14__20_8
   refine ⟨trivial, ?_⟩
   refine HSp (R_fieldAddr fo25_8 rfl) rfl rfl ?_
   refine HS_to0 [] _ rfl (by rw [hops25_]; kernel_rfl) (R_store sz23 rfl rfl htb14__20.blk (by show 8 < 9; decide) rfl) rfl ?_
   rintro _ w32_ ⟨hB32_, hF32_⟩
   replace hI := hI.tok hF32_ (out1 htb14__20.out) (new1 hge_b14_)
   replace ht2_ := ht2_.fr hF32_ (ne1 hne14_b2_)
   replace ht28_0 := ht28_0.fr hF32_ (ht28_0.apart htb14__20 (by decide))
   replace ho30_ := ho30_.fr hF32_ (ho30_.ne htb14__20.blk (by decide))
   replace htb14__20 : Tok H28_ _ b14_ 25 ([vi yb14__20.Kind_, vi yb14__20.Who_, vi yb14__20.Seq_, vi yb14__20.Rev_, vi yb14__20.At_, vi yb14__20.N_, vi yb14__20.Target_, vi yb14__20.Err_, .slice A30_ ((yb14__20.Edit_ ++ ([(api_Part.mk r26_0 r27_0 r28_0)] : List api_Part)).length) c30_]) := ⟨hB32_, htb14__20.out⟩
   clear hF32_ hB32_
   refine ⟨trivial, ?_⟩
   refine HS_nil ?_
   clear hops25_
   refine block_n ?_
   refine then_n (k24 _ _ ?_)
   clear k24 K24
   refine W_keepB [2, 4, 5, 26, 27] fun B_ b_ => ?_
   simp only [e_, Nat.reduceAdd, Nat.reduceBEq] at b_
   subst b_
   refine W_region [41, 27] rfl ?_
   have hk34_ := h.1
   replace h := h.2
   refine Ops_step (R_add rfl rfl (wI hk34_.1 hk34_.2)) rfl rfl (Ops_step (R_move rfl) rfl rfl ?_)
   refine Ops_nil ?_
   refine then_n ?_
   exact h.elim fun m_ h => ⟨m_, _, h.1, rfl, ⟨(x27_20 + 1), (api_Msg.mk yb14__20.Kind_ yb14__20.Who_ yb14__20.Seq_ yb14__20.Rev_ yb14__20.At_ yb14__20.N_ yb14__20.Target_ yb14__20.Err_ (yb14__20.Edit_ ++ ([(api_Part.mk r26_0 r27_0 r28_0)] : List api_Part))), A30_, c30_, y28_0, _, _, rfl, h.2, hI, hll20_, hhh20_, htb14__20, ho30_, ⟨_, ⟨A28_0_1, c28_0_1, rfl, ⟨hc28_0_1, hs28_0_1⟩⟩, ht28_0⟩, ht2_, trivial⟩, ⟨rfl, rfl, rfl, rfl, trivial⟩⟩
  ·
   replace h := h.2 hc23_
   refine W_exit ?_
   refine then_exit ?_
   clear k22 K22
   refine then_exit ?_
   refine block_exit ?_
   refine then_n ?_
   exact ⟨_, rfl, ⟨yd4_0_20, (api_Msg.mk yb14__20.Kind_ yb14__20.Who_ yb14__20.Seq_ yb14__20.Rev_ yb14__20.At_ yb14__20.N_ yb14__20.Target_ yb14__20.Err_ yb14__20.Edit_), Ab14__20_8, cb14__20_8, _, _, rfl, h, hI, hll17_, hhh17_, ⟨_, ⟨Ad4_0_20_1, cd4_0_20_1, rfl, ⟨hcd4_0_20_1, hsd4_0_20_1⟩⟩, htd4_0_20⟩, htb14__20, hob14__20_8, ht2_, trivial⟩, ⟨rfl, rfl, rfl, trivial⟩⟩
 ·
  simp only [e_, Nat.reduceAdd, Nat.reduceBEq] at b_
  subst b_
  clear h
  clear ht2_
  rintro _ w17_ ⟨yd4_0_17, yb14__17, Ab14__17_8, cb14__17_8, L17_, H17_, rfl, hJ17_, hI17_, hll17_, hhh17_, hqd4_0_17, htb14__17, hob14__17_8, ht2_, -⟩
  replace hI := hI17_
  clear hI17_
  have h := hr17_ yd4_0_17 yb14__17 hJ17_
  clear hr17_ hJ17_
  replace hs13_0_1 := hs13_0_1.up hhh17_
  obtain ⟨ld4_0_17_, hld4_0_17_, htd4_0_17⟩ := hqd4_0_17
  obtain ⟨Ad4_0_17_1, cd4_0_17_1, rfl, ⟨hcd4_0_17_1, hsd4_0_17_1⟩⟩ := hld4_0_17_
  refine W_seq_k fun K35 k35 => ?_
  refine ex_ h fun J36_ hr36_ h => ?_
  refine W_seq_join [2, 5] [49] (fun vals_ w2 => ∃ (x49_36 : Bool) (yb2__36 : api_Msg) (Ab2__36_8 : Option Addr) (cb2__36_8 : Nat) (yb14__36 : api_Msg) (L H : Gh), vals_ = [.bool x49_36] ∧ J36_ x49_36 yb2__36 yb14__36 ∧ Inv [] G w L H w2 ∧ Le L17_ L ∧ Le H17_ H ∧ Tok H w2 b2_ 25 [vi yb2__36.Kind_, vi yb2__36.Who_, vi yb2__36.Seq_, vi yb2__36.Rev_, vi yb2__36.At_, vi yb2__36.N_, vi yb2__36.Target_, vi yb2__36.Err_, .slice Ab2__36_8 yb2__36.Edit_.length cb2__36_8] ∧ OwnS w.heap.size 54 H H w2 Ab2__36_8 cb2__36_8 yb2__36.Edit_ ∧ Ob 25 H H w2 b14_ yb14__36 ∧ True) (fun B_ b_ => ?_) (fun B_ b_ => ?_)
  ·
   simp only [e_, Nat.reduceAdd, Nat.reduceBEq] at b_
   subst b_
   clear hr36_
   have hll36_ := Le.refl L17_
   have hhh36_ := Le.refl H17_
   refine W_region [42, 43, 44, 45, 46, 47, 48, 49] rfl (Ops_step (R_move rfl) rfl rfl ?_)
   refine Ops_call (C_func bd64 rfl) rfl rfl ?_
   refine (octet_Reader_End_ok (x0 := yd4_0_17) hI.st (hg.up hI.le) ⟨_, ⟨Ad4_0_17_1, cd4_0_17_1, rfl, ⟨hcd4_0_17_1, hsd4_0_17_1⟩⟩, htd4_0_17⟩ h).mono ?_
   rintro _ w37_ ⟨r37_0, L37_, H37_, rfl, hI37_, h⟩
   refine Exists.elim (hI.call hI37_ (by simp)) fun L370_ h37_ => ?_
   have hz37_ := hI.size
   replace hI := h37_.1
   have u37_ := h37_.2.1
   have hl37_ := h37_.2.2
   clear h37_
   replace ht2_ := ht2_.up u37_ (by simp)
   replace htb14__17 := htb14__17.up u37_ (by simp)
   replace hob14__17_8 := hob14__17_8.up u37_.hh u37_ (by simp)
   replace hll36_ := hll36_.trans u37_.ll
   replace hhh36_ := hhh36_.trans u37_.hh
   clear hI37_ u37_ hl37_
   refine ⟨_, rfl, ?_⟩
   refine Ops_step (R_neq rfl rfl) rfl rfl (Ops_step (R_move rfl) rfl rfl ?_)
   refine Ops_split 45 rfl (fun hg38_ => ?_) (fun hg38_ => ?_)
   ·
    replace h := h.1 hg38_
    refine Ops_pass rfl rfl (Ops_pass rfl rfl (Ops_pass rfl rfl (Ops_step (R_pick_true rfl rfl) rfl rfl ?_)))
    refine Ops_nil ?_
    refine Exists.elim (hob14__17_8.freeze hI) fun L39_ h39_ => Exists.elim h39_ fun H39_ h39_ => ?_
    replace hI := h39_.1
    have u39_ := h39_.2.1
    have hs39_ := h39_.2.2.2 (Le.refl _)
    have hc39_ := hob14__17_8.cap
    replace ht2_ := ht2_.up u39_ (ht2_.sep hob14__17_8 (by decide))
    replace htb14__17 := htb14__17.up u39_ (htb14__17.sep hob14__17_8 (by decide))
    replace hll36_ := hll36_.trans u39_.ll
    replace hhh36_ := hhh36_.trans u39_.hh
    clear h39_ u39_ hob14__17_8
    refine then_n ?_
    exact ⟨_, rfl, ⟨true, (api_Msg.mk 0 0 0 0 0 0 0 0 []), none, 0, (api_Msg.mk yb14__17.Kind_ yb14__17.Who_ yb14__17.Seq_ yb14__17.Rev_ yb14__17.At_ yb14__17.N_ yb14__17.Target_ yb14__17.Err_ yb14__17.Edit_), _, _, rfl, h, hI, hll36_, hhh36_, ht2_, OwnS.nil, ⟨_, ⟨Ab14__17_8, cb14__17_8, rfl, ⟨hc39_, hs39_⟩⟩, htb14__17⟩, trivial⟩, ⟨rfl, rfl, trivial⟩⟩
   ·
    replace h := h.2 hg38_
    refine Exists.elim (hob14__17_8.freeze hI) fun L40_ h40_ => Exists.elim h40_ fun H40_ h40_ => ?_
    replace hI := h40_.1
    have u40_ := h40_.2.1
    have hs40_ := h40_.2.2.2 (Le.refl _)
    have hc40_ := hob14__17_8.cap
    replace ht2_ := ht2_.up u40_ (ht2_.sep hob14__17_8 (by decide))
    replace htb14__17 := htb14__17.up u40_ (htb14__17.sep hob14__17_8 (by decide))
    replace hll36_ := hll36_.trans u40_.ll
    replace hhh36_ := hhh36_.trans u40_.hh
    clear h40_ u40_ hob14__17_8
    refine Ops_step (R_loadN ag25 sz25 rfl htb14__17.blk (Nat.le_of_ble_eq_true rfl)) rfl rfl ?_
    refine Ops_call (C_func bd14 rfl) rfl rfl ?_
    refine (frame_Check_ok (x0 := (api_Msg.mk yb14__17.Kind_ yb14__17.Who_ yb14__17.Seq_ yb14__17.Rev_ yb14__17.At_ yb14__17.N_ yb14__17.Target_ yb14__17.Err_ yb14__17.Edit_)) hI.st (hg.up hI.le) ⟨Ab14__17_8, cb14__17_8, rfl, ⟨hc40_, hs40_⟩⟩ h).mono ?_
    rintro _ w41_ ⟨r41_0, L41_, H41_, rfl, hI41_, h⟩
    refine Exists.elim (hI.call hI41_ (by simp)) fun L410_ h41_ => ?_
    have hz41_ := hI.size
    replace hI := h41_.1
    have u41_ := h41_.2.1
    have hl41_ := h41_.2.2
    clear h41_
    replace ht2_ := ht2_.up u41_ (by simp)
    replace htb14__17 := htb14__17.up u41_ (by simp)
    replace hll36_ := hll36_.trans u41_.ll
    replace hhh36_ := hhh36_.trans u41_.hh
    replace hs40_ := hs40_.up u41_.hh
    clear hI41_ u41_ hl41_
    refine ⟨_, rfl, ?_⟩
    refine Ops_step (R_neq rfl rfl) rfl rfl (Ops_step (R_pick_false rfl rfl) rfl rfl ?_)
    refine Ops_nil ?_
    refine then_n ?_
    exact ⟨_, rfl, ⟨(decide (r41_0 ≠ 0)), (api_Msg.mk 0 0 0 0 0 0 0 0 []), none, 0, (api_Msg.mk yb14__17.Kind_ yb14__17.Who_ yb14__17.Seq_ yb14__17.Rev_ yb14__17.At_ yb14__17.N_ yb14__17.Target_ yb14__17.Err_ yb14__17.Edit_), _, _, rfl, h, hI, hll36_, hhh36_, ht2_, OwnS.nil, ⟨_, ⟨Ab14__17_8, cb14__17_8, rfl, ⟨hc40_, hs40_⟩⟩, htb14__17⟩, trivial⟩, ⟨rfl, rfl, trivial⟩⟩
  ·
   simp only [e_, Nat.reduceAdd, Nat.reduceBEq] at b_
   subst b_
   clear h
   rintro _ w36_ ⟨x49_36, yb2__36, Ab2__36_8, cb2__36_8, yb14__36, L36_, H36_, rfl, hJ36_, hI36_, hll36_, hhh36_, htb2__36, hob2__36_8, hqb14__36, -⟩
   replace hI := hI36_
   clear hI36_
   have h := hr36_ x49_36 yb2__36 yb14__36 hJ36_
   clear hr36_ hJ36_
   obtain ⟨lb14__36_, hlb14__36_, htb14__36⟩ := hqb14__36
   obtain ⟨Ab14__36_1, cb14__36_1, rfl, ⟨hcb14__36_1, hsb14__36_1⟩⟩ := hlb14__36_
   refine W_cond rfl (fun hc42_ => ?_) (fun hc42_ => ?_)
   ·
    replace h := h.1 hc42_
    refine W_seq_k fun K43 k43 => ?_
    refine W_region [50, none, 3] rfl ?_
    refine Ops_step (R_build (pl := []) (cs := [vi 0, vi 0, vi 0, vi 0, vi 0, vi 0, vi 0, vi 0, .slice none 0 0]) zr25 pl25 rfl rfl rfl) rfl rfl ?_
    refine Ops_to0 (R_storeN sz25 rfl rfl rfl htb2__36.blk (Nat.le_of_ble_eq_true rfl) rfl) rfl ?_
    rintro _ w44_ ⟨hB44_, hF44_⟩
    replace hI := hI.tok hF44_ (out1 htb2__36.out) (new1 hge_b2_)
    replace hob2__36_8 := hob2__36_8.fr hF44_ (hob2__36_8.ne htb2__36.blk (by decide))
    replace htb2__36 : Tok H36_ _ b2_ 25 ([vi 0, vi 0, vi 0, vi 0, vi 0, vi 0, vi 0, vi 0, .slice none 0 0]) := ⟨hB44_, htb2__36.out⟩
    clear hF44_ hB44_
    refine Ops_step (R_assign rfl) rfl rfl ?_
    refine Ops_nil ?_
    refine then_n (k43 _ _ ?_)
    clear k43 K43
    refine W_ret ?_
    refine then_ret ?_
    clear k35 K35
    refine ⟨_, ⟨_, _, _, rfl, rfl, run_loadVarN ag25 sz25 htb2__36.blk (Nat.le_of_ble_eq_true rfl), ⟨_, _, rfl, rfl, rfl⟩⟩, ?_⟩
    exact ⟨_, (api_Msg.mk 0 0 0 0 0 0 0 0 []), 120, _, _, rfl, hI, ⟨none, 0, rfl, ⟨(Nat.le_refl 0), Sl.nil⟩⟩, h⟩
   ·
    replace h := h.2 hc42_
    refine W_skip ?_
    refine then_n (k35 _ _ ?_)
    clear k35 K35
    refine W_seq_k fun K45 k45 => ?_
    refine W_region [51, none, 3] rfl (Ops_step (R_loadN ag25 sz25 rfl htb14__36.blk (Nat.le_of_ble_eq_true rfl)) rfl rfl ?_)
    refine Ops_to0 (R_storeN sz25 rfl rfl rfl htb2__36.blk (Nat.le_of_ble_eq_true rfl) rfl) rfl ?_
    rintro _ w46_ ⟨hB46_, hF46_⟩
    replace hI := hI.tok hF46_ (out1 htb2__36.out) (new1 hge_b2_)
    replace hob2__36_8 := hob2__36_8.fr hF46_ (hob2__36_8.ne htb2__36.blk (by decide))
    replace htb2__36 : Tok H36_ _ b2_ 25 ([vi yb14__36.Kind_, vi yb14__36.Who_, vi yb14__36.Seq_, vi yb14__36.Rev_, vi yb14__36.At_, vi yb14__36.N_, vi yb14__36.Target_, vi yb14__36.Err_, .slice Ab14__36_1 yb14__36.Edit_.length cb14__36_1]) := ⟨hB46_, htb2__36.out⟩
    clear hF46_ hB46_
    refine Ops_step (R_assign rfl) rfl rfl ?_
    refine Ops_nil ?_
    refine then_n (k45 _ _ ?_)
    clear k45 K45
    refine W_ret ?_
    refine ⟨_, ⟨_, _, _, rfl, rfl, run_loadVarN ag25 sz25 htb2__36.blk (Nat.le_of_ble_eq_true rfl), ⟨_, _, rfl, rfl, rfl⟩⟩, ?_⟩
    exact ⟨_, yb14__36, 0, _, _, rfl, hI, ⟨Ab14__36_1, cb14__36_1, rfl, ⟨hcb14__36_1, hsb14__36_1⟩⟩, h⟩

theorem sealskinref13_Put_ok {G : Gh} {w : World} (hS : St G w) (hg : GL G) {l0 : List Value} {x0 : api_Msg} (hr0 : Rp.cs G x0 l0) {Q : (List UInt8) → Int → Prop} (h : sealskinref13_Put x0 Q) : Calls Tryd.prog 25 #[.agg l0.toArray] w fun e w2 => ∃ (A0 : Option Addr) (c0 : Nat) (r0 : List UInt8) (r1 : Int) (L H : Gh), e = .returned (.tuple #[.slice A0 r0.length c0, vi r1]) ∧ Inv [] G w L H w2 ∧ OwnS w.heap.size 5 L H w2 A0 c0 r0 ∧ Q r0 r1 := by
 unfold sealskinref13_Put at h
 have hI := Inv.start (M := []) hS
 refine calls_W 54 Tryd.func25 rfl Tryd.ntmps25 rfl [.tmp 2, .tmp 3] rfl ?_
 obtain ⟨A0_1, c0_1, rfl, ⟨hc0_1, hs0_1⟩⟩ := hr0
 refine W_seq_k fun K1 k1 => ?_
 refine W_region [1, 2, 3] rfl ?_
 have hI0_ := hI
 refine Ops_to (R_box rfl) rfl rfl ?_
 rintro _ w2_ ⟨b2_, rfl, hb2_, hB2_, hF2_⟩
 replace hI := hI.fr0 hF2_
 have ht2_ : Tok G _ b2_ 25 ([vi x0.Kind_, vi x0.Who_, vi x0.Seq_, vi x0.Rev_, vi x0.At_, vi x0.N_, vi x0.Target_, vi x0.Err_, .slice A0_1 x0.Edit_.length c0_1]) := ⟨hB2_.to rfl, Out.ge hI0_.st (Nat.le_of_eq hb2_.symm)⟩
 have hge_b2_ : w.heap.size ≤ b2_ := hb2_ ▸ hI0_.size
 clear hB2_ hb2_ hI0_ hF2_
 refine Ops_step (R_assign rfl) rfl rfl (Ops_step (R_assign rfl) rfl rfl ?_)
 refine Ops_nil ?_
 refine then_n (k1 _ _ ?_)
 clear k1 K1
 refine W_seq_k fun K3 k3 => ?_
 refine W_seq_k fun K4 k4 => ?_
 refine W_region [8, 9, 4] rfl (Ops_step (R_loadN ag25 sz25 rfl ht2_.blk (Nat.le_of_ble_eq_true rfl)) rfl rfl ?_)
 refine Ops_call (C_func bd15 rfl) rfl rfl ?_
 refine (sealskinref13_Check_ok (x0 := x0) hI.st (hg.up hI.le) ⟨A0_1, c0_1, rfl, ⟨hc0_1, hs0_1⟩⟩ h).mono ?_
 rintro _ w5_ ⟨r5_0, L5_, H5_, rfl, hI5_, h⟩
 refine Exists.elim (hI.call hI5_ (by simp)) fun L50_ h5_ => ?_
 have hz5_ := hI.size
 replace hI := h5_.1
 have u5_ := h5_.2.1
 have hl5_ := h5_.2.2
 clear h5_
 replace hs0_1 := hs0_1.up u5_.hh
 replace ht2_ := ht2_.up u5_ (by simp)
 clear hI5_ u5_ hl5_
 refine ⟨_, rfl, ?_⟩
 refine Ops_step (R_assign rfl) rfl rfl ?_
 refine Ops_nil ?_
 refine then_n (k4 _ _ ?_)
 clear k4 K4
 refine W_seq_k fun K6 k6 => ?_
 refine W_region [10, 11] rfl (Ops_step (R_move rfl) rfl rfl (Ops_step (R_neq rfl rfl) rfl rfl ?_))
 refine Ops_nil ?_
 refine then_n (k6 _ _ ?_)
 clear k6 K6
 refine W_keepB [1, 4, 11] fun B_ b_ => ?_
 simp only [e_, Nat.reduceAdd, Nat.reduceBEq] at b_
 subst b_
 refine W_if rfl (fun hc8_ => ?_) (fun hc8_ => ?_)
 ·
  replace h := h.1 hc8_
  refine W_seq_k fun K9 k9 => ?_
  refine W_region [12, 2, 3] rfl (Ops_step (R_move rfl) rfl rfl (Ops_step (R_assign rfl) rfl rfl (Ops_step (R_assign rfl) rfl rfl ?_)))
  refine Ops_nil ?_
  refine then_n (k9 _ _ ?_)
  clear k9 K9
  refine W_ret ?_
  refine then_ret ?_
  clear k3 K3
  refine ⟨_, ⟨_, _, rfl, rfl, ⟨_, _, rfl, rfl, rfl⟩⟩, ?_⟩
  exact ⟨none, 0, [], r5_0, _, _, rfl, hI, OwnS.nil, h⟩
 ·
  replace h := h.2 hc8_
  refine W_skip ?_
  refine then_n (k3 _ _ ?_)
  clear k3 K3
  refine W_seq_k fun K10 k10 => ?_
  refine W_region [13, 14, 15, 16, 17, 18, 19, 20, 21, 22, 23, 24, 25, 26, 27, 28, 29, 30, 31, 32, 33, 5] rfl (Ops_step (R_fieldAddr fo25_0 rfl) rfl rfl ?_)
  refine Ops_step (R_loadB (v := vi x0.Kind_) ag3 rfl ht2_.blk rfl) rfl rfl ?_
  refine Ops_step (R_fieldAddr fo25_1 rfl) rfl rfl ?_
  refine Ops_step (R_loadB (v := vi x0.Who_) ag3 rfl ht2_.blk rfl) rfl rfl ?_
  refine Ops_step (R_fieldAddr fo25_2 rfl) rfl rfl ?_
  refine Ops_step (R_loadB (v := vi x0.Seq_) ag3 rfl ht2_.blk rfl) rfl rfl ?_
  refine Ops_step (R_fieldAddr fo25_3 rfl) rfl rfl ?_
  refine Ops_step (R_loadB (v := vi x0.Rev_) ag3 rfl ht2_.blk rfl) rfl rfl ?_
  refine Ops_step (R_fieldAddr fo25_4 rfl) rfl rfl ?_
  refine Ops_step (R_loadB (v := vi x0.At_) ag3 rfl ht2_.blk rfl) rfl rfl ?_
  refine Ops_step (R_fieldAddr fo25_5 rfl) rfl rfl ?_
  refine Ops_step (R_loadB (v := vi x0.N_) ag3 rfl ht2_.blk rfl) rfl rfl ?_
  refine Ops_step (R_fieldAddr fo25_6 rfl) rfl rfl ?_
  refine Ops_step (R_loadB (v := vi x0.Target_) ag3 rfl ht2_.blk rfl) rfl rfl ?_
  refine Ops_step (R_fieldAddr fo25_7 rfl) rfl rfl ?_
  refine Ops_step (R_loadB (v := vi x0.Err_) ag22 rfl ht2_.blk rfl) rfl rfl ?_
  refine Ops_step (R_fieldAddr fo25_8 rfl) rfl rfl ?_
  refine Ops_step (R_loadB (v := .slice A0_1 x0.Edit_.length c0_1) ag23 rfl ht2_.blk rfl) rfl rfl ?_
  refine Ops_step (R_len Tryd.underlying23 rfl rfl) rfl rfl ?_
  refine Ops_to (R_buildSlice el56 zr3 (by decide) (by decide) rfl rfl) rfl rfl ?_
  rintro _ w11_ ⟨b11_, rfl, hb11_, hB11_, hF11_⟩
  have ho11_ : OwnS w.heap.size 3 Gh.no H5_ _ (some ⟨b11_, 0, none⟩) 9 ([x0.Kind_, x0.Who_, x0.Seq_, x0.Rev_, x0.At_, x0.N_, x0.Target_, x0.Err_, (x0.Edit_.length : Int)] : List Int) := OwnS.ofBlk hI.st hb11_ hB11_ (all2_sc' _) rfl (by have := hI.size; omega) (by show 9 ≤ maxLen; decide)
  replace hI := hI.fr0 hF11_
  replace ht2_ := ht2_.fr0 hF11_
  clear hF11_ hB11_
  refine Exists.elim (ho11_.lend hI.st (Le.no _)) fun Hb12_0_ hb12_0_ => ?_
  refine Ops_call (C_func bd54 rfl) rfl rfl ?_
  refine (sealskinref02_Put_ok (x0 := []) (x1 := ([x0.Kind_, x0.Who_, x0.Seq_, x0.Rev_, x0.At_, x0.N_, x0.Target_, x0.Err_, (x0.Edit_.length : Int)] : List Int)) hb12_0_.1 (hg.up (hI.le.trans hb12_0_.2.1)) (Nat.le_refl 0) Sl.nil (Nat.le_refl _) hb12_0_.2.2 h).mono ?_
  rintro _ w12_ ⟨A12_0, c12_0, r12_0, L12_, H12_, rfl, hI12_, ho12_0, h⟩
  refine Exists.elim (hI.callB hb12_0_.2.1 hI12_ (by simp)) fun L120_ h12_ => Exists.elim h12_ fun H120_ h12_ => ?_
  have hz12_ := hI.size
  replace hI := h12_.1
  have u12_ := h12_.2.1
  have hl12_ := h12_.2.2.1
  have hh12_ := h12_.2.2.2
  clear h12_
  replace hs0_1 := hs0_1.up u12_.hh
  replace ht2_ := ht2_.up u12_ (by simp)
  replace ho12_0 := OwnS.backS ho12_0 hz12_ hh12_
  clear hI12_ u12_ hl12_
  refine ⟨_, rfl, ?_⟩
  refine Ops_step (R_assign rfl) rfl rfl ?_
  refine Ops_nil ?_
  refine then_n (k10 _ _ ?_)
  clear k10 K10
  refine W_keepB [1, 5] fun B_ b_ => ?_
  simp only [e_, Nat.reduceAdd, Nat.reduceBEq] at b_
  subst b_
  refine ex_ h fun J14_ hr14_ h => ?_
  refine W_seq_join [] [5] (fun vals_ w2 => ∃ (x5_14 : List UInt8) (A5_14 : Option Addr) (c5_14 : Nat) (L H : Gh), vals_ = [.slice A5_14 x5_14.length c5_14] ∧ J14_ x5_14 ∧ Inv [] G w L H w2 ∧ Le L120_ L ∧ Le H120_ H ∧ OwnS w.heap.size 5 Gh.no H w2 A5_14 c5_14 x5_14 ∧ True) (fun B_ b_ => ?_) (fun B_ b_ => ?_)
  ·
   simp only [e_, Nat.reduceAdd, Nat.reduceBEq] at b_
   subst b_
   clear hr14_
   have hll14_ := Le.refl L120_
   have hhh14_ := Le.refl H120_
   refine W_seq_k fun K15 k15 => ?_
   refine W_region [34, 35, 36, 37] rfl (Ops_step (R_fieldAddr fo25_8 rfl) rfl rfl ?_)
   refine Ops_step (R_loadB (v := .slice A0_1 x0.Edit_.length c0_1) ag23 rfl ht2_.blk rfl) rfl rfl ?_
   refine Ops_step (R_len Tryd.underlying23 rfl rfl) rfl rfl (Ops_step (R_move rfl) rfl rfl ?_)
   refine Ops_nil ?_
   refine then_n (k15 _ _ ?_)
   clear k15 K15
   refine W_block ?_
   refine Exists.elim h fun I16_ h => Exists.elim h fun n16_ h => ?_
   have h0_ := h.1
   have hs16_ := h.2
   clear h
   refine W_loopB [35, 36] [5, 37] (fun m vals_ w2 => ∃ (x5_16 : List UInt8) (A5_16 : Option Addr) (c5_16 : Nat) (x37_16 : Int) (L H : Gh), vals_ = [.slice A5_16 x5_16.length c5_16, vi x37_16] ∧ I16_ m x5_16 x37_16 ∧ Inv [] G w L H w2 ∧ Le L120_ L ∧ Le H120_ H ∧ OwnS w.heap.size 5 Gh.no H w2 A5_16 c5_16 x5_16 ∧ True) n16_ _ rfl ⟨r12_0, A12_0, c12_0, 0, _, _, rfl, h0_, hI, Le.refl _, Le.refl _, ho12_0, trivial⟩ fun B_ b_ => ?_
   clear h0_
   simp only [e_, Nat.reduceAdd, Nat.reduceBEq] at b_
   subst b_
   rintro m16_ _ w16_ ⟨x5_16, A5_16, c5_16, x37_16, L16_, H16_, rfl, hJ16_, hI16_, hll16_, hhh16_, ho5_16, -⟩
   replace hI := hI16_
   clear hI16_
   have h := hs16_ m16_ x5_16 x37_16 hJ16_
   clear hs16_ hJ16_
   replace hs0_1 := hs0_1.up hhh16_
   replace hll14_ := hll14_.trans hll16_
   replace hhh14_ := hhh14_.trans hhh16_
   refine W_seq_k fun K17 k17 => ?_
   refine W_region [38] rfl (Ops_step (R_lss rfl rfl) rfl rfl ?_)
   refine Ops_nil ?_
   refine then_n (k17 _ _ ?_)
   clear k17 K17
   refine W_seq_k fun K18 k18 => ?_
   refine W_if rfl (fun hc19_ => ?_) (fun hc19_ => ?_)
   ·
    replace h := h.1 hc19_
    refine W_skip ?_
    refine then_n (k18 _ _ ?_)
    clear k18 K18
    refine W_seq_k fun K20 k20 => ?_
    refine W_block ?_
    refine W_seq_k fun K21 k21 => ?_
    refine W_region [39, 40, 7, none] rfl ?_
    refine ex_ h fun x22_ hx22_ h => ?_
    have ha22_ := (Sl.atN (n := 3) rfl (by decide) hs0_1 hx22_).1
    refine Exists.elim (Sl.atN (n := 3) rfl (by decide) hs0_1 hx22_).2 fun l22_ hA22_ => ?_
    have hr22_ := hA22_.1
    have hg22_ := hA22_.2
    clear hA22_
    refine Ops_step (R_indexSl Tryd.underlying23 sz54 rfl rfl hx22_.1 hx22_.lt ha22_) rfl rfl ?_
    replace hr22_ : l22_ = [vi x22_.Kind_, vi x22_.N_, vs x22_.Text_] := hr22_
    subst hr22_
    refine Ops_step (R_loadCs (cs := [vi x22_.Kind_, vi x22_.N_, vs x22_.Text_]) ag54 sz54 rfl (fun j_ v_ hv_ => hI.st _ _ (hg22_ j_ v_ hv_))) rfl rfl ?_
    have hI0_ := hI
    refine Ops_to (R_alloc zr54) rfl rfl ?_
    rintro _ w23_ ⟨b23_, rfl, hb23_, hB23_, hF23_⟩
    replace hI := hI.fr0 hF23_
    replace ho5_16 := ho5_16.fr0 hF23_
    have ht23_ : Tok H16_ _ b23_ 54 ([vi 0, vi 0, vs (Str.mk [])]) := ⟨hB23_.to rfl, Out.ge hI0_.st (Nat.le_of_eq hb23_.symm)⟩
    have hge_b23_ : w.heap.size ≤ b23_ := hb23_ ▸ hI0_.size
    clear hB23_ hb23_ hI0_ hF23_
    refine Ops_to0 (R_storeN sz54 rfl rfl rfl ht23_.blk (Nat.le_of_ble_eq_true rfl) rfl) rfl ?_
    rintro _ w24_ ⟨hB24_, hF24_⟩
    replace hI := hI.tok hF24_ (out1 ht23_.out) (new1 hge_b23_)
    replace ho5_16 := ho5_16.fr hF24_ (ho5_16.ne ht23_.blk (by decide))
    replace ht23_ : Tok H16_ _ b23_ 54 ([vi x22_.Kind_, vi x22_.N_, vs x22_.Text_]) := ⟨hB24_, ht23_.out⟩
    clear hF24_ hB24_
    refine Ops_nil ?_
    refine then_n (k21 _ _ ?_)
    clear k21 K21
    refine W_drawS [41, 42, 43, 44, 45, 46, 47, 48, 49, 50, 51, 5] (.q 0 (.q 1 (.q 2 (.q 3 (.q 4 (.q 7 (.q 8 (.two 5 (.two 6 (.l 9 (.l 10 (.q 11 .done))) 9 (.l 6 (.l 10 (.q 11 .done)))) 9 (.l 5 (.l 6 (.l 10 (.q 11 .done)))))))))))) TFtF.hm rfl (by kernel_rfl) fun ops25_ w25_ hops25_ hF25_ => ?_
    replace hI := hI.fr0 hF25_
    replace ho5_16 := ho5_16.fr0 hF25_
    replace ht23_ := ht23_.fr0 hF25_
    clear hF25_
    refine HSp (R_move rfl) rfl rfl (HSp (R_fieldAddr fo54_0 rfl) rfl rfl ?_)
    refine HS_loadB (v := vi x22_.Kind_) ag3 rfl ht23_.blk rfl rfl rfl ?_
    refine HSp (R_fieldAddr fo54_1 rfl) rfl rfl ?_
    refine HS_loadB (v := vi x22_.N_) ag3 rfl ht23_.blk rfl rfl rfl ?_
    refine HSp (R_fieldAddr fo54_2 rfl) rfl rfl ?_
    refine HS_loadB (v := vs x22_.Text_) ag9 rfl ht23_.blk rfl rfl rfl ?_
    refine HS_two ?_ ?_
    ·
     replace h := h.1
     refine Stp_to [8] _ rfl (by rw [hops25_]; kernel_rfl) (R_buildSlice el56 zr3 (by decide) (by decide) rfl rfl) rfl rfl ?_
     rintro _ w26_ ⟨b26_, rfl, hb26_, hB26_, hF26_⟩
     have ho26_ : OwnS w.heap.size 3 Gh.no H16_ _ (some ⟨b26_, 0, none⟩) 2 ([x22_.Kind_, x22_.N_] : List Int) := OwnS.ofBlk hI.st hb26_ hB26_ (all2_sc' _) rfl (by have := hI.size; omega) (by show 2 ≤ maxLen; decide)
     replace hI := hI.fr0 hF26_
     replace ho5_16 := ho5_16.fr0 hF26_
     replace ht23_ := ht23_.fr0 hF26_
     clear hF26_ hB26_
     refine ⟨⟨(ht23_.blk.at_ rfl), trivial⟩, ?_⟩
     refine HS_two ?_ ?_
     ·
      replace h := h.1
      refine Exists.elim (ho5_16.lend hI.st (Le.no _)) fun Hb27_0_ hb27_0_ => ?_
      refine Exists.elim (ho26_.lend hb27_0_.1 ((Le.no _).trans hb27_0_.2.1)) fun Hb27_1_ hb27_1_ => ?_
      refine Stp_call [8] _ rfl (by rw [hops25_]; kernel_rfl) (C_func bd54 rfl) rfl rfl ?_
      refine (sealskinref02_Put_ok (x0 := x5_16) (x1 := ([x22_.Kind_, x22_.N_] : List Int)) hb27_1_.1 (hg.up (hI.le.trans (hb27_0_.2.1.trans hb27_1_.2.1))) ho5_16.cap (hb27_0_.2.2.up hb27_1_.2.1) (Nat.le_refl _) hb27_1_.2.2 h).mono ?_
      have hlo27_0_ho5_16 := ho5_16.lt
      rintro _ w27_ ⟨A27_0, c27_0, r27_0, L27_, H27_, rfl, hI27_, ho27_0, h⟩
      refine Exists.elim (hI.callB (hb27_0_.2.1.trans hb27_1_.2.1) hI27_ (by simp)) fun L270_ h27_ => Exists.elim h27_ fun H270_ h27_ => ?_
      have hz27_ := hI.size
      replace hI := h27_.1
      have u27_ := h27_.2.1
      have hl27_ := h27_.2.2.1
      have hh27_ := h27_.2.2.2
      clear h27_
      replace hs0_1 := hs0_1.up u27_.hh
      replace hll14_ := hll14_.trans u27_.ll
      replace hhh14_ := hhh14_.trans u27_.hh
      replace ho5_16 := ho5_16.up (Le.refl _) u27_ (by simp)
      replace hll16_ := hll16_.trans u27_.ll
      replace hhh16_ := hhh16_.trans u27_.hh
      replace ht23_ := ht23_.up u27_ (by simp)
      have hsp27_0_ho5_16 : ∀ i ∈ bk A27_0 c27_0, i ∉ bk A5_16 c5_16 := sep_new ho27_0.off hlo27_0_ho5_16
      replace ho27_0 := OwnS.backS ho27_0 hz27_ hh27_
      clear hI27_ u27_ hl27_
      refine ⟨_, rfl, ⟨(ht23_.blk.at_ rfl), trivial⟩, ?_⟩
      refine Exists.elim (ho27_0.freeze hI) fun L28_ h28_ => Exists.elim h28_ fun H28_ h28_ => ?_
      replace hI := h28_.1
      have u28_ := h28_.2.1
      have hs28_ := h28_.2.2.1 (Le.no _)
      have hc28_ := ho27_0.cap
      replace hs0_1 := hs0_1.up u28_.hh
      replace hll14_ := hll14_.trans u28_.ll
      replace hhh14_ := hhh14_.trans u28_.hh
      replace ho5_16 := ho5_16.up (Le.refl _) u28_ (sep_sym hsp27_0_ho5_16)
      replace hll16_ := hll16_.trans u28_.ll
      replace hhh16_ := hhh16_.trans u28_.hh
      replace ht23_ := ht23_.up u28_ (ht23_.sep ho27_0 (by decide))
      clear h28_ u28_ ho27_0
      refine HS_to [] _ rfl (by rw [hops25_]; kernel_rfl) (X_strBytes (s := x22_.Text_) Tryd.underlying9 Tryd.underlying30 Tryd.underlying5 rfl) rfl rfl ?_
      rintro _ w29_ ⟨A29_, c29_, rfl, hc29_, hR29_, hn29_, hF29_⟩
      refine Exists.elim (Inv.newRd hI hF29_ hR29_ hn29_) fun L29_ h29_ => Exists.elim h29_ fun H29_ h29_ => ?_
      replace hI := h29_.1
      have u29_ := h29_.2.1
      have hs29_ := h29_.2.2
      replace hs0_1 := hs0_1.up u29_.hh
      replace hll14_ := hll14_.trans u29_.ll
      replace hhh14_ := hhh14_.trans u29_.hh
      replace ho5_16 := ho5_16.up (Le.refl _) u29_ (by simp)
      replace hll16_ := hll16_.trans u29_.ll
      replace hhh16_ := hhh16_.trans u29_.hh
      replace ht23_ := ht23_.up u29_ (by simp)
      replace hs28_ := hs28_.up u29_.ll
      clear h29_ u29_ hR29_ hn29_ hF29_
      refine ⟨trivial, ?_⟩
      refine HS_call [] _ rfl (by rw [hops25_]; kernel_rfl) (C_func bd55 rfl) rfl rfl ?_
      refine (sealskinref02_PutBytes_ok (x0 := r27_0) (x1 := x22_.Text_.b) hI.st (hg.up hI.le) hc28_ (hs28_.up hI.sub) hc29_ (hs29_.up hI.sub) h).mono ?_
      have hlo30_0_ho5_16 := ho5_16.lt
      rintro _ w30_ ⟨A30_0, c30_0, r30_0, L30_, H30_, rfl, hI30_, ho30_0, h⟩
      refine Exists.elim (hI.call hI30_ (by simp)) fun L300_ h30_ => ?_
      have hz30_ := hI.size
      replace hI := h30_.1
      have u30_ := h30_.2.1
      have hl30_ := h30_.2.2
      clear h30_
      replace hs0_1 := hs0_1.up u30_.hh
      replace hll14_ := hll14_.trans u30_.ll
      replace hhh14_ := hhh14_.trans u30_.hh
      replace ho5_16 := ho5_16.up (Le.refl _) u30_ (by simp)
      replace hll16_ := hll16_.trans u30_.ll
      replace hhh16_ := hhh16_.trans u30_.hh
      have hsp30_0_ho5_16 : ∀ i ∈ bk A30_0 c30_0, i ∉ bk A5_16 c5_16 := sep_new ho30_0.off hlo30_0_ho5_16
      replace ho30_0 := OwnS.backS ho30_0 hz30_ (Le.refl _)
      clear hI30_ u30_ hl30_
      refine ⟨_, rfl, trivial, ?_⟩
      refine HSp (R_assign rfl) rfl rfl ?_
      refine HS_nil ?_
      clear hops25_
      refine block_n ?_
      refine then_n (k20 _ _ ?_)
      clear k20 K20
      refine W_keepB [5, 35, 36, 37] fun B_ b_ => ?_
      simp only [e_, Nat.reduceAdd, Nat.reduceBEq] at b_
      subst b_
      refine W_region [52, 37] rfl ?_
      have hk32_ := h.1
      replace h := h.2
      refine Ops_step (R_add rfl rfl (wI hk32_.1 hk32_.2)) rfl rfl (Ops_step (R_move rfl) rfl rfl ?_)
      refine Ops_nil ?_
      refine then_n ?_
      exact h.elim fun m_ h => ⟨m_, _, h.1, rfl, ⟨r30_0, A30_0, c30_0, (x37_16 + 1), _, _, rfl, h.2, hI, hll16_, hhh16_, ho30_0, trivial⟩, ⟨rfl, rfl, trivial⟩⟩
     ·
      replace h := h.2
      refine Stp_to [] _ rfl (by rw [hops25_]; kernel_rfl) (X_strBytes (s := x22_.Text_) Tryd.underlying9 Tryd.underlying30 Tryd.underlying5 rfl) rfl rfl ?_
      rintro _ w27_ ⟨A27_, c27_, rfl, hc27_, hR27_, hn27_, hF27_⟩
      refine Exists.elim (Inv.newRd hI hF27_ hR27_ hn27_) fun L27_ h27_ => Exists.elim h27_ fun H27_ h27_ => ?_
      replace hI := h27_.1
      have u27_ := h27_.2.1
      have hs27_ := h27_.2.2
      replace hs0_1 := hs0_1.up u27_.hh
      replace hll14_ := hll14_.trans u27_.ll
      replace hhh14_ := hhh14_.trans u27_.hh
      replace ho5_16 := ho5_16.up (Le.refl _) u27_ (by simp)
      replace hll16_ := hll16_.trans u27_.ll
      replace hhh16_ := hhh16_.trans u27_.hh
      replace ht23_ := ht23_.up u27_ (by simp)
      replace ho26_ := ho26_.up (Le.refl _) u27_ (by simp)
      clear h27_ u27_ hR27_ hn27_ hF27_
      refine ⟨trivial, ?_⟩
      refine Exists.elim (ho5_16.lend hI.st (Le.no _)) fun Hb28_0_ hb28_0_ => ?_
      refine Exists.elim (ho26_.lend hb28_0_.1 ((Le.no _).trans hb28_0_.2.1)) fun Hb28_1_ hb28_1_ => ?_
      refine HS_call [] _ rfl (by rw [hops25_]; kernel_rfl) (C_func bd54 rfl) rfl rfl ?_
      refine (sealskinref02_Put_ok (x0 := x5_16) (x1 := ([x22_.Kind_, x22_.N_] : List Int)) hb28_1_.1 (hg.up (hI.le.trans (hb28_0_.2.1.trans hb28_1_.2.1))) ho5_16.cap (hb28_0_.2.2.up hb28_1_.2.1) (Nat.le_refl _) hb28_1_.2.2 h).mono ?_
      have hlo28_0_ho5_16 := ho5_16.lt
      rintro _ w28_ ⟨A28_0, c28_0, r28_0, L28_, H28_, rfl, hI28_, ho28_0, h⟩
      refine Exists.elim (hI.callB (hb28_0_.2.1.trans hb28_1_.2.1) hI28_ (by simp)) fun L280_ h28_ => Exists.elim h28_ fun H280_ h28_ => ?_
      have hz28_ := hI.size
      replace hI := h28_.1
      have u28_ := h28_.2.1
      have hl28_ := h28_.2.2.1
      have hh28_ := h28_.2.2.2
      clear h28_
      replace hs0_1 := hs0_1.up u28_.hh
      replace hll14_ := hll14_.trans u28_.ll
      replace hhh14_ := hhh14_.trans u28_.hh
      replace ho5_16 := ho5_16.up (Le.refl _) u28_ (by simp)
      replace hll16_ := hll16_.trans u28_.ll
      replace hhh16_ := hhh16_.trans u28_.hh
      replace hs27_ := hs27_.up u28_.ll
      have hsp28_0_ho5_16 : ∀ i ∈ bk A28_0 c28_0, i ∉ bk A5_16 c5_16 := sep_new ho28_0.off hlo28_0_ho5_16
      replace ho28_0 := OwnS.backS ho28_0 hz28_ hh28_
      clear hI28_ u28_ hl28_
      refine ⟨_, rfl, trivial, ?_⟩
      refine Exists.elim (ho28_0.freeze hI) fun L29_ h29_ => Exists.elim h29_ fun H29_ h29_ => ?_
      replace hI := h29_.1
      have u29_ := h29_.2.1
      have hs29_ := h29_.2.2.1 (Le.no _)
      have hc29_ := ho28_0.cap
      replace hs0_1 := hs0_1.up u29_.hh
      replace hll14_ := hll14_.trans u29_.ll
      replace hhh14_ := hhh14_.trans u29_.hh
      replace ho5_16 := ho5_16.up (Le.refl _) u29_ (sep_sym hsp28_0_ho5_16)
      replace hll16_ := hll16_.trans u29_.ll
      replace hhh16_ := hhh16_.trans u29_.hh
      replace hs27_ := hs27_.up u29_.ll
      clear h29_ u29_ ho28_0
      refine HS_call [] _ rfl (by rw [hops25_]; kernel_rfl) (C_func bd55 rfl) rfl rfl ?_
      refine (sealskinref02_PutBytes_ok (x0 := r28_0) (x1 := x22_.Text_.b) hI.st (hg.up hI.le) hc29_ (hs29_.up hI.sub) hc27_ (hs27_.up hI.sub) h).mono ?_
      have hlo30_0_ho5_16 := ho5_16.lt
      rintro _ w30_ ⟨A30_0, c30_0, r30_0, L30_, H30_, rfl, hI30_, ho30_0, h⟩
      refine Exists.elim (hI.call hI30_ (by simp)) fun L300_ h30_ => ?_
      have hz30_ := hI.size
      replace hI := h30_.1
      have u30_ := h30_.2.1
      have hl30_ := h30_.2.2
      clear h30_
      replace hs0_1 := hs0_1.up u30_.hh
      replace hll14_ := hll14_.trans u30_.ll
      replace hhh14_ := hhh14_.trans u30_.hh
      replace ho5_16 := ho5_16.up (Le.refl _) u30_ (by simp)
      replace hll16_ := hll16_.trans u30_.ll
      replace hhh16_ := hhh16_.trans u30_.hh
      have hsp30_0_ho5_16 : ∀ i ∈ bk A30_0 c30_0, i ∉ bk A5_16 c5_16 := sep_new ho30_0.off hlo30_0_ho5_16
      replace ho30_0 := OwnS.backS ho30_0 hz30_ (Le.refl _)
      clear hI30_ u30_ hl30_
      refine ⟨_, rfl, trivial, ?_⟩
      refine HSp (R_assign rfl) rfl rfl ?_
      refine HS_nil ?_
      clear hops25_
      refine block_n ?_
      refine then_n (k20 _ _ ?_)
      clear k20 K20
      refine W_keepB [5, 35, 36, 37] fun B_ b_ => ?_
      simp only [e_, Nat.reduceAdd, Nat.reduceBEq] at b_
      subst b_
      refine W_region [52, 37] rfl ?_
      have hk32_ := h.1
      replace h := h.2
      refine Ops_step (R_add rfl rfl (wI hk32_.1 hk32_.2)) rfl rfl (Ops_step (R_move rfl) rfl rfl ?_)
      refine Ops_nil ?_
      refine then_n ?_
      exact h.elim fun m_ h => ⟨m_, _, h.1, rfl, ⟨r30_0, A30_0, c30_0, (x37_16 + 1), _, _, rfl, h.2, hI, hll16_, hhh16_, ho30_0, trivial⟩, ⟨rfl, rfl, trivial⟩⟩
    ·
     replace h := h.2
     refine Stp_to [4, 2] _ rfl (by rw [hops25_]; kernel_rfl) (X_strBytes (s := x22_.Text_) Tryd.underlying9 Tryd.underlying30 Tryd.underlying5 rfl) rfl rfl ?_
     rintro _ w26_ ⟨A26_, c26_, rfl, hc26_, hR26_, hn26_, hF26_⟩
     refine Exists.elim (Inv.newRd hI hF26_ hR26_ hn26_) fun L26_ h26_ => Exists.elim h26_ fun H26_ h26_ => ?_
     replace hI := h26_.1
     have u26_ := h26_.2.1
     have hs26_ := h26_.2.2
     replace hs0_1 := hs0_1.up u26_.hh
     replace hll14_ := hll14_.trans u26_.ll
     replace hhh14_ := hhh14_.trans u26_.hh
     replace ho5_16 := ho5_16.up (Le.refl _) u26_ (by simp)
     replace hll16_ := hll16_.trans u26_.ll
     replace hhh16_ := hhh16_.trans u26_.hh
     replace ht23_ := ht23_.up u26_ (by simp)
     clear h26_ u26_ hR26_ hn26_ hF26_
     refine ⟨⟨(ht23_.blk.at_ rfl), (ht23_.blk.at_ rfl), trivial⟩, ?_⟩
     refine HS_to [] _ rfl (by rw [hops25_]; kernel_rfl) (R_buildSlice el56 zr3 (by decide) (by decide) rfl rfl) rfl rfl ?_
     rintro _ w27_ ⟨b27_, rfl, hb27_, hB27_, hF27_⟩
     have ho27_ : OwnS w.heap.size 3 Gh.no H26_ _ (some ⟨b27_, 0, none⟩) 2 ([x22_.Kind_, x22_.N_] : List Int) := OwnS.ofBlk hI.st hb27_ hB27_ (all2_sc' _) rfl (by have := hI.size; omega) (by show 2 ≤ maxLen; decide)
     replace hI := hI.fr0 hF27_
     replace ho5_16 := ho5_16.fr0 hF27_
     replace ht23_ := ht23_.fr0 hF27_
     clear hF27_ hB27_
     refine ⟨trivial, ?_⟩
     refine Exists.elim (ho5_16.lend hI.st (Le.no _)) fun Hb28_0_ hb28_0_ => ?_
     refine Exists.elim (ho27_.lend hb28_0_.1 ((Le.no _).trans hb28_0_.2.1)) fun Hb28_1_ hb28_1_ => ?_
     refine HS_call [] _ rfl (by rw [hops25_]; kernel_rfl) (C_func bd54 rfl) rfl rfl ?_
     refine (sealskinref02_Put_ok (x0 := x5_16) (x1 := ([x22_.Kind_, x22_.N_] : List Int)) hb28_1_.1 (hg.up (hI.le.trans (hb28_0_.2.1.trans hb28_1_.2.1))) ho5_16.cap (hb28_0_.2.2.up hb28_1_.2.1) (Nat.le_refl _) hb28_1_.2.2 h).mono ?_
     have hlo28_0_ho5_16 := ho5_16.lt
     rintro _ w28_ ⟨A28_0, c28_0, r28_0, L28_, H28_, rfl, hI28_, ho28_0, h⟩
     refine Exists.elim (hI.callB (hb28_0_.2.1.trans hb28_1_.2.1) hI28_ (by simp)) fun L280_ h28_ => Exists.elim h28_ fun H280_ h28_ => ?_
     have hz28_ := hI.size
     replace hI := h28_.1
     have u28_ := h28_.2.1
     have hl28_ := h28_.2.2.1
     have hh28_ := h28_.2.2.2
     clear h28_
     replace hs0_1 := hs0_1.up u28_.hh
     replace hll14_ := hll14_.trans u28_.ll
     replace hhh14_ := hhh14_.trans u28_.hh
     replace ho5_16 := ho5_16.up (Le.refl _) u28_ (by simp)
     replace hll16_ := hll16_.trans u28_.ll
     replace hhh16_ := hhh16_.trans u28_.hh
     replace hs26_ := hs26_.up u28_.ll
     have hsp28_0_ho5_16 : ∀ i ∈ bk A28_0 c28_0, i ∉ bk A5_16 c5_16 := sep_new ho28_0.off hlo28_0_ho5_16
     replace ho28_0 := OwnS.backS ho28_0 hz28_ hh28_
     clear hI28_ u28_ hl28_
     refine ⟨_, rfl, trivial, ?_⟩
     refine Exists.elim (ho28_0.freeze hI) fun L29_ h29_ => Exists.elim h29_ fun H29_ h29_ => ?_
     replace hI := h29_.1
     have u29_ := h29_.2.1
     have hs29_ := h29_.2.2.1 (Le.no _)
     have hc29_ := ho28_0.cap
     replace hs0_1 := hs0_1.up u29_.hh
     replace hll14_ := hll14_.trans u29_.ll
     replace hhh14_ := hhh14_.trans u29_.hh
     replace ho5_16 := ho5_16.up (Le.refl _) u29_ (sep_sym hsp28_0_ho5_16)
     replace hll16_ := hll16_.trans u29_.ll
     replace hhh16_ := hhh16_.trans u29_.hh
     replace hs26_ := hs26_.up u29_.ll
     clear h29_ u29_ ho28_0
     refine HS_call [] _ rfl (by rw [hops25_]; kernel_rfl) (C_func bd55 rfl) rfl rfl ?_
     refine (sealskinref02_PutBytes_ok (x0 := r28_0) (x1 := x22_.Text_.b) hI.st (hg.up hI.le) hc29_ (hs29_.up hI.sub) hc26_ (hs26_.up hI.sub) h).mono ?_
     have hlo30_0_ho5_16 := ho5_16.lt
     rintro _ w30_ ⟨A30_0, c30_0, r30_0, L30_, H30_, rfl, hI30_, ho30_0, h⟩
     refine Exists.elim (hI.call hI30_ (by simp)) fun L300_ h30_ => ?_
     have hz30_ := hI.size
     replace hI := h30_.1
     have u30_ := h30_.2.1
     have hl30_ := h30_.2.2
     clear h30_
     replace hs0_1 := hs0_1.up u30_.hh
     replace hll14_ := hll14_.trans u30_.ll
     replace hhh14_ := hhh14_.trans u30_.hh
     replace ho5_16 := ho5_16.up (Le.refl _) u30_ (by simp)
     replace hll16_ := hll16_.trans u30_.ll
     replace hhh16_ := hhh16_.trans u30_.hh
     have hsp30_0_ho5_16 : ∀ i ∈ bk A30_0 c30_0, i ∉ bk A5_16 c5_16 := sep_new ho30_0.off hlo30_0_ho5_16
     replace ho30_0 := OwnS.backS ho30_0 hz30_ (Le.refl _)
     clear hI30_ u30_ hl30_
     refine ⟨_, rfl, trivial, ?_⟩
     refine HSp (R_assign rfl) rfl rfl ?_
     refine HS_nil ?_
     clear hops25_
     refine block_n ?_
     refine then_n (k20 _ _ ?_)
     clear k20 K20
     refine W_keepB [5, 35, 36, 37] fun B_ b_ => ?_
     simp only [e_, Nat.reduceAdd, Nat.reduceBEq] at b_
     subst b_
     refine W_region [52, 37] rfl ?_
     have hk32_ := h.1
     replace h := h.2
     refine Ops_step (R_add rfl rfl (wI hk32_.1 hk32_.2)) rfl rfl (Ops_step (R_move rfl) rfl rfl ?_)
     refine Ops_nil ?_
     refine then_n ?_
     exact h.elim fun m_ h => ⟨m_, _, h.1, rfl, ⟨r30_0, A30_0, c30_0, (x37_16 + 1), _, _, rfl, h.2, hI, hll16_, hhh16_, ho30_0, trivial⟩, ⟨rfl, rfl, trivial⟩⟩
   ·
    replace h := h.2 hc19_
    refine W_exit ?_
    refine then_exit ?_
    clear k18 K18
    refine then_exit ?_
    refine block_exit ?_
    refine then_n ?_
    exact ⟨_, rfl, ⟨x5_16, A5_16, c5_16, _, _, rfl, h, hI, hll14_, hhh14_, ho5_16, trivial⟩, trivial⟩
  ·
   simp only [e_, Nat.reduceAdd, Nat.reduceBEq] at b_
   subst b_
   clear h
   rintro _ w14_ ⟨x5_14, A5_14, c5_14, L14_, H14_, rfl, hJ14_, hI14_, hll14_, hhh14_, ho5_14, -⟩
   replace hI := hI14_
   clear hI14_
   have h := hr14_ x5_14 hJ14_
   clear hr14_ hJ14_
   refine W_seq_k fun K33 k33 => ?_
   refine W_region [53, 2, 3] rfl (Ops_step (R_move rfl) rfl rfl (Ops_step (R_assign rfl) rfl rfl (Ops_step (R_assign rfl) rfl rfl ?_)))
   refine Ops_nil ?_
   refine then_n (k33 _ _ ?_)
   clear k33 K33
   refine W_ret ?_
   refine ⟨_, ⟨_, _, rfl, rfl, ⟨_, _, rfl, rfl, rfl⟩⟩, ?_⟩
   exact ⟨A5_14, c5_14, x5_14, 0, _, _, rfl, hI, (ho5_14.hl (Le.no _)), h⟩

theorem sealskinref13_Same_ok {G : Gh} {w : World} (hS : St G w) (hg : GL G) {l0 : List Value} {x0 : api_Msg} (hr0 : Rp.cs G x0 l0) {l1 : List Value} {x1 : api_Msg} (hr1 : Rp.cs G x1 l1) {Q : Bool → Prop} (h : sealskinref13_Same x0 x1 Q) : Calls Tryd.prog 33 #[.agg l0.toArray, .agg l1.toArray] w fun e w2 => ∃ (r0 : Bool) (L H : Gh), e = .returned (.bool r0) ∧ Inv [] G w L H w2 ∧ Q r0 := by
 unfold sealskinref13_Same at h
 have hI := Inv.start (M := []) hS
 refine calls_W 66 Tryd.func33 rfl Tryd.ntmps33 rfl [.tmp 4] rfl ?_
 obtain ⟨A0_1, c0_1, rfl, ⟨hc0_1, hs0_1⟩⟩ := hr0
 obtain ⟨A1_1, c1_1, rfl, ⟨hc1_1, hs1_1⟩⟩ := hr1
 refine W_seq_k fun K1 k1 => ?_
 refine W_region [2, 3, 4] rfl ?_
 have hI0_ := hI
 refine Ops_to (R_box rfl) rfl rfl ?_
 rintro _ w2_ ⟨b2_, rfl, hb2_, hB2_, hF2_⟩
 replace hI := hI.fr0 hF2_
 have ht2_ : Tok G _ b2_ 25 ([vi x0.Kind_, vi x0.Who_, vi x0.Seq_, vi x0.Rev_, vi x0.At_, vi x0.N_, vi x0.Target_, vi x0.Err_, .slice A0_1 x0.Edit_.length c0_1]) := ⟨hB2_.to rfl, Out.ge hI0_.st (Nat.le_of_eq hb2_.symm)⟩
 have hge_b2_ : w.heap.size ≤ b2_ := hb2_ ▸ hI0_.size
 clear hB2_ hb2_ hI0_ hF2_
 have hlo3_b2_ := ht2_.blk.lt
 have hI0_ := hI
 refine Ops_to (R_box rfl) rfl rfl ?_
 rintro _ w3_ ⟨b3_, rfl, hb3_, hB3_, hF3_⟩
 replace hI := hI.fr0 hF3_
 replace ht2_ := ht2_.fr0 hF3_
 have ht3_ : Tok G _ b3_ 25 ([vi x1.Kind_, vi x1.Who_, vi x1.Seq_, vi x1.Rev_, vi x1.At_, vi x1.N_, vi x1.Target_, vi x1.Err_, .slice A1_1 x1.Edit_.length c1_1]) := ⟨hB3_.to rfl, Out.ge hI0_.st (Nat.le_of_eq hb3_.symm)⟩
 have hge_b3_ : w.heap.size ≤ b3_ := hb3_ ▸ hI0_.size
 have hne3_b2_ : b2_ ≠ b3_ := fun e_ => absurd hlo3_b2_ (by omega)
 clear hB3_ hb3_ hI0_ hF3_
 refine Ops_step (R_assign rfl) rfl rfl ?_
 refine Ops_nil ?_
 refine then_n (k1 _ _ ?_)
 clear k1 K1
 refine W_seq_k fun K4 k4 => ?_
 refine W_region [5, 6, 7, 8, 9, 10, 11, 12, 13, 14, 15, 16, 17, 18, 19, 20, 21, 22, 23, 24, 25, 26, 27, 28, 29, 30, 31, 32, 33, 34, 35, 36, 37, 38, 39, 40, 41, 42, 43, 44, 45, 46, 47, 48, 49, 50, 51, 52, 53, 54, 55, 56, 57, 58, 59, 60, 61, 62, 63, 64, 65, 4] rfl (Ops_step (R_fieldAddr fo25_0 rfl) rfl rfl ?_)
 refine Ops_step (R_loadB (v := vi x0.Kind_) ag3 rfl ht2_.blk rfl) rfl rfl ?_
 refine Ops_step (R_fieldAddr fo25_0 rfl) rfl rfl ?_
 refine Ops_step (R_loadB (v := vi x1.Kind_) ag3 rfl ht3_.blk rfl) rfl rfl ?_
 refine Ops_step (R_eql rfl rfl) rfl rfl (Ops_step (R_move rfl) rfl rfl ?_)
 refine Ops_split 10 rfl (fun hg5_ => ?_) (fun hg5_ => ?_)
 ·
  replace h := h.1 hg5_
  refine Ops_step (R_fieldAddr fo25_1 rfl) rfl rfl ?_
  refine Ops_step (R_loadB (v := vi x0.Who_) ag3 rfl ht2_.blk rfl) rfl rfl ?_
  refine Ops_step (R_fieldAddr fo25_1 rfl) rfl rfl ?_
  refine Ops_step (R_loadB (v := vi x1.Who_) ag3 rfl ht3_.blk rfl) rfl rfl ?_
  refine Ops_step (R_eql rfl rfl) rfl rfl (Ops_step (R_pick_true rfl rfl) rfl rfl (Ops_step (R_move rfl) rfl rfl ?_))
  refine Ops_split 17 rfl (fun hg6_ => ?_) (fun hg6_ => ?_)
  ·
   replace h := h.1 hg6_
   refine Ops_step (R_fieldAddr fo25_2 rfl) rfl rfl ?_
   refine Ops_step (R_loadB (v := vi x0.Seq_) ag3 rfl ht2_.blk rfl) rfl rfl ?_
   refine Ops_step (R_fieldAddr fo25_2 rfl) rfl rfl ?_
   refine Ops_step (R_loadB (v := vi x1.Seq_) ag3 rfl ht3_.blk rfl) rfl rfl ?_
   refine Ops_step (R_eql rfl rfl) rfl rfl (Ops_step (R_pick_true rfl rfl) rfl rfl (Ops_step (R_move rfl) rfl rfl ?_))
   refine Ops_split 24 rfl (fun hg7_ => ?_) (fun hg7_ => ?_)
   ·
    replace h := h.1 hg7_
    refine Ops_step (R_fieldAddr fo25_3 rfl) rfl rfl ?_
    refine Ops_step (R_loadB (v := vi x0.Rev_) ag3 rfl ht2_.blk rfl) rfl rfl ?_
    refine Ops_step (R_fieldAddr fo25_3 rfl) rfl rfl ?_
    refine Ops_step (R_loadB (v := vi x1.Rev_) ag3 rfl ht3_.blk rfl) rfl rfl ?_
    refine Ops_step (R_eql rfl rfl) rfl rfl (Ops_step (R_pick_true rfl rfl) rfl rfl (Ops_step (R_move rfl) rfl rfl ?_))
    refine Ops_split 31 rfl (fun hg8_ => ?_) (fun hg8_ => ?_)
    ·
     replace h := h.1 hg8_
     refine Ops_step (R_fieldAddr fo25_4 rfl) rfl rfl ?_
     refine Ops_step (R_loadB (v := vi x0.At_) ag3 rfl ht2_.blk rfl) rfl rfl ?_
     refine Ops_step (R_fieldAddr fo25_4 rfl) rfl rfl ?_
     refine Ops_step (R_loadB (v := vi x1.At_) ag3 rfl ht3_.blk rfl) rfl rfl ?_
     refine Ops_step (R_eql rfl rfl) rfl rfl (Ops_step (R_pick_true rfl rfl) rfl rfl (Ops_step (R_move rfl) rfl rfl ?_))
     refine Ops_split 38 rfl (fun hg9_ => ?_) (fun hg9_ => ?_)
     ·
      replace h := h.1 hg9_
      refine Ops_step (R_fieldAddr fo25_5 rfl) rfl rfl ?_
      refine Ops_step (R_loadB (v := vi x0.N_) ag3 rfl ht2_.blk rfl) rfl rfl ?_
      refine Ops_step (R_fieldAddr fo25_5 rfl) rfl rfl ?_
      refine Ops_step (R_loadB (v := vi x1.N_) ag3 rfl ht3_.blk rfl) rfl rfl ?_
      refine Ops_step (R_eql rfl rfl) rfl rfl (Ops_step (R_pick_true rfl rfl) rfl rfl (Ops_step (R_move rfl) rfl rfl ?_))
      refine Ops_split 45 rfl (fun hg10_ => ?_) (fun hg10_ => ?_)
      ·
       replace h := h.1 hg10_
       refine Ops_step (R_fieldAddr fo25_6 rfl) rfl rfl ?_
       refine Ops_step (R_loadB (v := vi x0.Target_) ag3 rfl ht2_.blk rfl) rfl rfl ?_
       refine Ops_step (R_fieldAddr fo25_6 rfl) rfl rfl ?_
       refine Ops_step (R_loadB (v := vi x1.Target_) ag3 rfl ht3_.blk rfl) rfl rfl ?_
       refine Ops_step (R_eql rfl rfl) rfl rfl (Ops_step (R_pick_true rfl rfl) rfl rfl (Ops_step (R_move rfl) rfl rfl ?_))
       refine Ops_split 52 rfl (fun hg11_ => ?_) (fun hg11_ => ?_)
       ·
        replace h := h.1 hg11_
        refine Ops_step (R_fieldAddr fo25_7 rfl) rfl rfl ?_
        refine Ops_step (R_loadB (v := vi x0.Err_) ag22 rfl ht2_.blk rfl) rfl rfl ?_
        refine Ops_step (R_fieldAddr fo25_7 rfl) rfl rfl ?_
        refine Ops_step (R_loadB (v := vi x1.Err_) ag22 rfl ht3_.blk rfl) rfl rfl ?_
        refine Ops_step (R_eql rfl rfl) rfl rfl (Ops_step (R_pick_true rfl rfl) rfl rfl (Ops_step (R_move rfl) rfl rfl ?_))
        refine Ops_split 59 rfl (fun hg12_ => ?_) (fun hg12_ => ?_)
        ·
         replace h := h.1 hg12_
         refine Ops_step (R_fieldAddr fo25_8 rfl) rfl rfl ?_
         refine Ops_step (R_loadB (v := .slice A0_1 x0.Edit_.length c0_1) ag23 rfl ht2_.blk rfl) rfl rfl ?_
         refine Ops_step (R_fieldAddr fo25_8 rfl) rfl rfl ?_
         refine Ops_step (R_loadB (v := .slice A1_1 x1.Edit_.length c1_1) ag23 rfl ht3_.blk rfl) rfl rfl ?_
         refine Ops_call (C_func bd65 rfl) rfl rfl ?_
         refine (sealskinref03_Same_ok (x0 := x0.Edit_) (x1 := x1.Edit_) hI.st (hg.up hI.le) hc0_1 hs0_1 hc1_1 hs1_1 h).mono ?_
         rintro _ w13_ ⟨r13_0, L13_, H13_, rfl, hI13_, h⟩
         refine Exists.elim (hI.call hI13_ (by simp)) fun L130_ h13_ => ?_
         have hz13_ := hI.size
         replace hI := h13_.1
         have u13_ := h13_.2.1
         have hl13_ := h13_.2.2
         clear h13_
         clear hI13_ u13_ hl13_
         refine ⟨_, rfl, ?_⟩
         refine Ops_step (R_pick_true rfl rfl) rfl rfl (Ops_step (R_assign rfl) rfl rfl ?_)
         refine Ops_nil ?_
         refine then_n (k4 _ _ ?_)
         clear k4 K4
         refine W_keepB [4] fun B_ b_ => ?_
         simp only [e_, Nat.reduceAdd, Nat.reduceBEq] at b_
         subst b_
         refine W_ret ?_
         refine ⟨_, ⟨_, _, rfl, rfl, rfl⟩, ?_⟩
         exact ⟨r13_0, _, _, rfl, hI, h⟩
        ·
         replace h := h.2 hg12_
         refine Ops_pass rfl rfl (Ops_pass rfl rfl (Ops_pass rfl rfl (Ops_pass rfl rfl (Ops_pass rfl rfl ?_))))
         refine Ops_step (R_pick_false rfl rfl) rfl rfl (Ops_step (R_assign rfl) rfl rfl ?_)
         refine Ops_nil ?_
         refine then_n (k4 _ _ ?_)
         clear k4 K4
         refine W_keepB [4] fun B_ b_ => ?_
         simp only [e_, Nat.reduceAdd, Nat.reduceBEq] at b_
         subst b_
         refine W_ret ?_
         refine ⟨_, ⟨_, _, rfl, rfl, rfl⟩, ?_⟩
         exact ⟨false, _, _, rfl, hI, h⟩
       ·
        replace h := h.2 hg11_
        refine Ops_pass rfl rfl (Ops_pass rfl rfl (Ops_pass rfl rfl (Ops_pass rfl rfl (Ops_pass rfl rfl ?_))))
        refine Ops_step (R_pick_false rfl rfl) rfl rfl (Ops_step (R_move rfl) rfl rfl (Ops_pass rfl rfl (Ops_pass rfl rfl (Ops_pass rfl rfl ?_))))
        refine Ops_pass rfl rfl (Ops_pass rfl rfl (Ops_step (R_pick_false rfl rfl) rfl rfl (Ops_step (R_assign rfl) rfl rfl ?_)))
        refine Ops_nil ?_
        refine then_n (k4 _ _ ?_)
        clear k4 K4
        refine W_keepB [4] fun B_ b_ => ?_
        simp only [e_, Nat.reduceAdd, Nat.reduceBEq] at b_
        subst b_
        refine W_ret ?_
        refine ⟨_, ⟨_, _, rfl, rfl, rfl⟩, ?_⟩
        exact ⟨false, _, _, rfl, hI, h⟩
      ·
       replace h := h.2 hg10_
       refine Ops_pass rfl rfl (Ops_pass rfl rfl (Ops_pass rfl rfl (Ops_pass rfl rfl (Ops_pass rfl rfl ?_))))
       refine Ops_step (R_pick_false rfl rfl) rfl rfl (Ops_step (R_move rfl) rfl rfl (Ops_pass rfl rfl (Ops_pass rfl rfl (Ops_pass rfl rfl ?_))))
       refine Ops_pass rfl rfl (Ops_pass rfl rfl (Ops_step (R_pick_false rfl rfl) rfl rfl (Ops_step (R_move rfl) rfl rfl (Ops_pass rfl rfl ?_))))
       refine Ops_pass rfl rfl (Ops_pass rfl rfl (Ops_pass rfl rfl (Ops_pass rfl rfl (Ops_step (R_pick_false rfl rfl) rfl rfl ?_))))
       refine Ops_step (R_assign rfl) rfl rfl ?_
       refine Ops_nil ?_
       refine then_n (k4 _ _ ?_)
       clear k4 K4
       refine W_keepB [4] fun B_ b_ => ?_
       simp only [e_, Nat.reduceAdd, Nat.reduceBEq] at b_
       subst b_
       refine W_ret ?_
       refine ⟨_, ⟨_, _, rfl, rfl, rfl⟩, ?_⟩
       exact ⟨false, _, _, rfl, hI, h⟩
     ·
      replace h := h.2 hg9_
      refine Ops_pass rfl rfl (Ops_pass rfl rfl (Ops_pass rfl rfl (Ops_pass rfl rfl (Ops_pass rfl rfl ?_))))
      refine Ops_step (R_pick_false rfl rfl) rfl rfl (Ops_step (R_move rfl) rfl rfl (Ops_pass rfl rfl (Ops_pass rfl rfl (Ops_pass rfl rfl ?_))))
      refine Ops_pass rfl rfl (Ops_pass rfl rfl (Ops_step (R_pick_false rfl rfl) rfl rfl (Ops_step (R_move rfl) rfl rfl (Ops_pass rfl rfl ?_))))
      refine Ops_pass rfl rfl (Ops_pass rfl rfl (Ops_pass rfl rfl (Ops_pass rfl rfl (Ops_step (R_pick_false rfl rfl) rfl rfl ?_))))
      refine Ops_step (R_move rfl) rfl rfl (Ops_pass rfl rfl (Ops_pass rfl rfl (Ops_pass rfl rfl (Ops_pass rfl rfl ?_))))
      refine Ops_pass rfl rfl (Ops_step (R_pick_false rfl rfl) rfl rfl (Ops_step (R_assign rfl) rfl rfl ?_))
      refine Ops_nil ?_
      refine then_n (k4 _ _ ?_)
      clear k4 K4
      refine W_keepB [4] fun B_ b_ => ?_
      simp only [e_, Nat.reduceAdd, Nat.reduceBEq] at b_
      subst b_
      refine W_ret ?_
      refine ⟨_, ⟨_, _, rfl, rfl, rfl⟩, ?_⟩
      exact ⟨false, _, _, rfl, hI, h⟩
    ·
     replace h := h.2 hg8_
     refine Ops_pass rfl rfl (Ops_pass rfl rfl (Ops_pass rfl rfl (Ops_pass rfl rfl (Ops_pass rfl rfl ?_))))
     refine Ops_step (R_pick_false rfl rfl) rfl rfl (Ops_step (R_move rfl) rfl rfl (Ops_pass rfl rfl (Ops_pass rfl rfl (Ops_pass rfl rfl ?_))))
     refine Ops_pass rfl rfl (Ops_pass rfl rfl (Ops_step (R_pick_false rfl rfl) rfl rfl (Ops_step (R_move rfl) rfl rfl (Ops_pass rfl rfl ?_))))
     refine Ops_pass rfl rfl (Ops_pass rfl rfl (Ops_pass rfl rfl (Ops_pass rfl rfl (Ops_step (R_pick_false rfl rfl) rfl rfl ?_))))
     refine Ops_step (R_move rfl) rfl rfl (Ops_pass rfl rfl (Ops_pass rfl rfl (Ops_pass rfl rfl (Ops_pass rfl rfl ?_))))
     refine Ops_pass rfl rfl (Ops_step (R_pick_false rfl rfl) rfl rfl (Ops_step (R_move rfl) rfl rfl (Ops_pass rfl rfl (Ops_pass rfl rfl ?_))))
     refine Ops_pass rfl rfl (Ops_pass rfl rfl (Ops_pass rfl rfl (Ops_step (R_pick_false rfl rfl) rfl rfl (Ops_step (R_assign rfl) rfl rfl ?_))))
     refine Ops_nil ?_
     refine then_n (k4 _ _ ?_)
     clear k4 K4
     refine W_keepB [4] fun B_ b_ => ?_
     simp only [e_, Nat.reduceAdd, Nat.reduceBEq] at b_
     subst b_
     refine W_ret ?_
     refine ⟨_, ⟨_, _, rfl, rfl, rfl⟩, ?_⟩
     exact ⟨false, _, _, rfl, hI, h⟩
   ·
    replace h := h.2 hg7_
    refine Ops_pass rfl rfl (Ops_pass rfl rfl (Ops_pass rfl rfl (Ops_pass rfl rfl (Ops_pass rfl rfl ?_))))
    refine Ops_step (R_pick_false rfl rfl) rfl rfl (Ops_step (R_move rfl) rfl rfl (Ops_pass rfl rfl (Ops_pass rfl rfl (Ops_pass rfl rfl ?_))))
    refine Ops_pass rfl rfl (Ops_pass rfl rfl (Ops_step (R_pick_false rfl rfl) rfl rfl (Ops_step (R_move rfl) rfl rfl (Ops_pass rfl rfl ?_))))
    refine Ops_pass rfl rfl (Ops_pass rfl rfl (Ops_pass rfl rfl (Ops_pass rfl rfl (Ops_step (R_pick_false rfl rfl) rfl rfl ?_))))
    refine Ops_step (R_move rfl) rfl rfl (Ops_pass rfl rfl (Ops_pass rfl rfl (Ops_pass rfl rfl (Ops_pass rfl rfl ?_))))
    refine Ops_pass rfl rfl (Ops_step (R_pick_false rfl rfl) rfl rfl (Ops_step (R_move rfl) rfl rfl (Ops_pass rfl rfl (Ops_pass rfl rfl ?_))))
    refine Ops_pass rfl rfl (Ops_pass rfl rfl (Ops_pass rfl rfl (Ops_step (R_pick_false rfl rfl) rfl rfl (Ops_step (R_move rfl) rfl rfl ?_))))
    refine Ops_pass rfl rfl (Ops_pass rfl rfl (Ops_pass rfl rfl (Ops_pass rfl rfl (Ops_pass rfl rfl ?_))))
    refine Ops_step (R_pick_false rfl rfl) rfl rfl (Ops_step (R_assign rfl) rfl rfl ?_)
    refine Ops_nil ?_
    refine then_n (k4 _ _ ?_)
    clear k4 K4
    refine W_keepB [4] fun B_ b_ => ?_
    simp only [e_, Nat.reduceAdd, Nat.reduceBEq] at b_
    subst b_
    refine W_ret ?_
    refine ⟨_, ⟨_, _, rfl, rfl, rfl⟩, ?_⟩
    exact ⟨false, _, _, rfl, hI, h⟩
  ·
   replace h := h.2 hg6_
   refine Ops_pass rfl rfl (Ops_pass rfl rfl (Ops_pass rfl rfl (Ops_pass rfl rfl (Ops_pass rfl rfl ?_))))
   refine Ops_step (R_pick_false rfl rfl) rfl rfl (Ops_step (R_move rfl) rfl rfl (Ops_pass rfl rfl (Ops_pass rfl rfl (Ops_pass rfl rfl ?_))))
   refine Ops_pass rfl rfl (Ops_pass rfl rfl (Ops_step (R_pick_false rfl rfl) rfl rfl (Ops_step (R_move rfl) rfl rfl (Ops_pass rfl rfl ?_))))
   refine Ops_pass rfl rfl (Ops_pass rfl rfl (Ops_pass rfl rfl (Ops_pass rfl rfl (Ops_step (R_pick_false rfl rfl) rfl rfl ?_))))
   refine Ops_step (R_move rfl) rfl rfl (Ops_pass rfl rfl (Ops_pass rfl rfl (Ops_pass rfl rfl (Ops_pass rfl rfl ?_))))
   refine Ops_pass rfl rfl (Ops_step (R_pick_false rfl rfl) rfl rfl (Ops_step (R_move rfl) rfl rfl (Ops_pass rfl rfl (Ops_pass rfl rfl ?_))))
   refine Ops_pass rfl rfl (Ops_pass rfl rfl (Ops_pass rfl rfl (Ops_step (R_pick_false rfl rfl) rfl rfl (Ops_step (R_move rfl) rfl rfl ?_))))
   refine Ops_pass rfl rfl (Ops_pass rfl rfl (Ops_pass rfl rfl (Ops_pass rfl rfl (Ops_pass rfl rfl ?_))))
   refine Ops_step (R_pick_false rfl rfl) rfl rfl (Ops_step (R_move rfl) rfl rfl (Ops_pass rfl rfl (Ops_pass rfl rfl (Ops_pass rfl rfl ?_))))
   refine Ops_pass rfl rfl (Ops_pass rfl rfl (Ops_step (R_pick_false rfl rfl) rfl rfl (Ops_step (R_assign rfl) rfl rfl ?_)))
   refine Ops_nil ?_
   refine then_n (k4 _ _ ?_)
   clear k4 K4
   refine W_keepB [4] fun B_ b_ => ?_
   simp only [e_, Nat.reduceAdd, Nat.reduceBEq] at b_
   subst b_
   refine W_ret ?_
   refine ⟨_, ⟨_, _, rfl, rfl, rfl⟩, ?_⟩
   exact ⟨false, _, _, rfl, hI, h⟩
 ·
  replace h := h.2 hg5_
  refine Ops_pass rfl rfl (Ops_pass rfl rfl (Ops_pass rfl rfl (Ops_pass rfl rfl (Ops_pass rfl rfl ?_))))
  refine Ops_step (R_pick_false rfl rfl) rfl rfl (Ops_step (R_move rfl) rfl rfl (Ops_pass rfl rfl (Ops_pass rfl rfl (Ops_pass rfl rfl ?_))))
  refine Ops_pass rfl rfl (Ops_pass rfl rfl (Ops_step (R_pick_false rfl rfl) rfl rfl (Ops_step (R_move rfl) rfl rfl (Ops_pass rfl rfl ?_))))
  refine Ops_pass rfl rfl (Ops_pass rfl rfl (Ops_pass rfl rfl (Ops_pass rfl rfl (Ops_step (R_pick_false rfl rfl) rfl rfl ?_))))
  refine Ops_step (R_move rfl) rfl rfl (Ops_pass rfl rfl (Ops_pass rfl rfl (Ops_pass rfl rfl (Ops_pass rfl rfl ?_))))
  refine Ops_pass rfl rfl (Ops_step (R_pick_false rfl rfl) rfl rfl (Ops_step (R_move rfl) rfl rfl (Ops_pass rfl rfl (Ops_pass rfl rfl ?_))))
  refine Ops_pass rfl rfl (Ops_pass rfl rfl (Ops_pass rfl rfl (Ops_step (R_pick_false rfl rfl) rfl rfl (Ops_step (R_move rfl) rfl rfl ?_))))
  refine Ops_pass rfl rfl (Ops_pass rfl rfl (Ops_pass rfl rfl (Ops_pass rfl rfl (Ops_pass rfl rfl ?_))))
  refine Ops_step (R_pick_false rfl rfl) rfl rfl (Ops_step (R_move rfl) rfl rfl (Ops_pass rfl rfl (Ops_pass rfl rfl (Ops_pass rfl rfl ?_))))
  refine Ops_pass rfl rfl (Ops_pass rfl rfl (Ops_step (R_pick_false rfl rfl) rfl rfl (Ops_step (R_move rfl) rfl rfl (Ops_pass rfl rfl ?_))))
  refine Ops_pass rfl rfl (Ops_pass rfl rfl (Ops_pass rfl rfl (Ops_pass rfl rfl (Ops_step (R_pick_false rfl rfl) rfl rfl ?_))))
  refine Ops_step (R_assign rfl) rfl rfl ?_
  refine Ops_nil ?_
  refine then_n (k4 _ _ ?_)
  clear k4 K4
  refine W_keepB [4] fun B_ b_ => ?_
  simp only [e_, Nat.reduceAdd, Nat.reduceBEq] at b_
  subst b_
  refine W_ret ?_
  refine ⟨_, ⟨_, _, rfl, rfl, rfl⟩, ?_⟩
  exact ⟨false, _, _, rfl, hI, h⟩

theorem sealskinref13_Get_ok {G : Gh} {w : World} (hS : St G w) (hg : GL G) {A0 : Option Addr} {c0 : Nat} {x0 : List UInt8} (hc0 : x0.length ≤ c0) (hs0 : Sl G A0 x0) {Q : api_Msg → Int → Prop} (h : sealskinref13_Get x0 Q) : Calls Tryd.prog 35 #[.slice A0 x0.length c0] w fun e w2 => ∃ (l0 : List Value) (r0 : api_Msg) (r1 : Int) (L H : Gh), e = .returned (.tuple #[.agg l0.toArray, vi r1]) ∧ Inv [] G w L H w2 ∧ Rp.cs H r0 l0 ∧ Q r0 r1 := by
 unfold sealskinref13_Get at h
 have hI := Inv.start (M := []) hS
 refine calls_W 75 Tryd.func35 rfl Tryd.ntmps35 rfl [.cell 2 25, .tmp 3] rfl ?_
 refine W_seq_k fun K1 k1 => ?_
 refine W_region [2, 3] rfl ?_
 have hI0_ := hI
 refine Ops_to (R_alloc zr25) rfl rfl ?_
 rintro _ w2_ ⟨b2_, rfl, hb2_, hB2_, hF2_⟩
 replace hI := hI.fr0 hF2_
 have ht2_ : Tok G _ b2_ 25 ([vi 0, vi 0, vi 0, vi 0, vi 0, vi 0, vi 0, vi 0, .slice none 0 0]) := ⟨hB2_.to rfl, Out.ge hI0_.st (Nat.le_of_eq hb2_.symm)⟩
 have hge_b2_ : w.heap.size ≤ b2_ := hb2_ ▸ hI0_.size
 clear hB2_ hb2_ hI0_ hF2_
 refine Ops_step (R_assign rfl) rfl rfl ?_
 refine Ops_nil ?_
 refine then_n (k1 _ _ ?_)
 clear k1 K1
 refine W_seq_k fun K3 k3 => ?_
 refine W_region [10, 11, 12, 4] rfl (Ops_step (R_move rfl) rfl rfl ?_)
 refine Ops_step (R_build (pl := [(0, 1)]) (cs := [.slice A0 x0.length c0, vi 0, vi 0]) zr69 pl69 rfl rfl rfl) rfl rfl ?_
 have hI0_ := hI
 refine Ops_to (R_box rfl) rfl rfl ?_
 rintro _ w4_ ⟨b4_, rfl, hb4_, hB4_, hF4_⟩
 replace hI := hI.fr0 hF4_
 replace ht2_ := ht2_.fr0 hF4_
 have ht4_ : Tok G _ b4_ 69 ([.slice A0 x0.length c0, vi 0, vi 0]) := ⟨hB4_.to rfl, Out.ge hI0_.st (Nat.le_of_eq hb4_.symm)⟩
 have hge_b4_ : w.heap.size ≤ b4_ := hb4_ ▸ hI0_.size
 clear hB4_ hb4_ hI0_ hF4_
 refine Ops_step (R_assign rfl) rfl rfl ?_
 refine Ops_nil ?_
 refine then_n (k3 _ _ ?_)
 clear k3 K3
 refine W_seq_k fun K5 k5 => ?_
 refine W_region [13, 14, 15, 16, 17, 18, 19, 20, 21, 22, 23, 24, 25, 26, 27, 5, none] rfl (Ops_step (R_move rfl) rfl rfl ?_)
 refine Ops_call (C_func bd47 rfl) rfl rfl ?_
 refine (sealskinref02_Reader_Number_ok (x0 := (sealskinref02_Reader.mk x0 0 0)) hI.st (hg.up hI.le) ⟨_, ⟨A0, c0, rfl, ⟨hc0, hs0⟩⟩, ht4_⟩ h).mono ?_
 rintro _ w6_ ⟨r6_0, y6_0, L6_, H6_, rfl, hI6_, hq6_0, h⟩
 refine Exists.elim (hI.call hI6_ (new1 hge_b4_)) fun L60_ h6_ => ?_
 have hz6_ := hI.size
 replace hI := h6_.1
 have u6_ := h6_.2.1
 have hl6_ := h6_.2.2
 clear h6_
 replace hs0 := hs0.up u6_.hh
 replace ht2_ := ht2_.up u6_ (ht2_.apart ht4_ (by decide))
 clear ht4_
 obtain ⟨l6_0_, hl6_0_, ht6_0⟩ := hq6_0
 obtain ⟨A6_0_1, c6_0_1, rfl, ⟨hc6_0_1, hs6_0_1⟩⟩ := hl6_0_
 clear hI6_ u6_ hl6_
 refine ⟨_, rfl, ?_⟩
 refine Ops_step (R_move rfl) rfl rfl ?_
 refine Ops_call (C_func bd47 rfl) rfl rfl ?_
 refine (sealskinref02_Reader_Number_ok (x0 := y6_0) hI.st (hg.up hI.le) ⟨_, ⟨A6_0_1, c6_0_1, rfl, ⟨hc6_0_1, hs6_0_1⟩⟩, ht6_0⟩ h).mono ?_
 rintro _ w7_ ⟨r7_0, y7_0, L7_, H7_, rfl, hI7_, hq7_0, h⟩
 refine Exists.elim (hI.call hI7_ (new1 hge_b4_)) fun L70_ h7_ => ?_
 have hz7_ := hI.size
 replace hI := h7_.1
 have u7_ := h7_.2.1
 have hl7_ := h7_.2.2
 clear h7_
 replace hs0 := hs0.up u7_.hh
 replace ht2_ := ht2_.up u7_ (ht2_.apart ht6_0 (by decide))
 replace hs6_0_1 := hs6_0_1.up u7_.hh
 clear ht6_0
 obtain ⟨l7_0_, hl7_0_, ht7_0⟩ := hq7_0
 obtain ⟨A7_0_1, c7_0_1, rfl, ⟨hc7_0_1, hs7_0_1⟩⟩ := hl7_0_
 clear hI7_ u7_ hl7_
 refine ⟨_, rfl, ?_⟩
 refine Ops_step (R_move rfl) rfl rfl ?_
 refine Ops_call (C_func bd47 rfl) rfl rfl ?_
 refine (sealskinref02_Reader_Number_ok (x0 := y7_0) hI.st (hg.up hI.le) ⟨_, ⟨A7_0_1, c7_0_1, rfl, ⟨hc7_0_1, hs7_0_1⟩⟩, ht7_0⟩ h).mono ?_
 rintro _ w8_ ⟨r8_0, y8_0, L8_, H8_, rfl, hI8_, hq8_0, h⟩
 refine Exists.elim (hI.call hI8_ (new1 hge_b4_)) fun L80_ h8_ => ?_
 have hz8_ := hI.size
 replace hI := h8_.1
 have u8_ := h8_.2.1
 have hl8_ := h8_.2.2
 clear h8_
 replace hs0 := hs0.up u8_.hh
 replace ht2_ := ht2_.up u8_ (ht2_.apart ht7_0 (by decide))
 replace hs7_0_1 := hs7_0_1.up u8_.hh
 clear ht7_0
 obtain ⟨l8_0_, hl8_0_, ht8_0⟩ := hq8_0
 obtain ⟨A8_0_1, c8_0_1, rfl, ⟨hc8_0_1, hs8_0_1⟩⟩ := hl8_0_
 clear hI8_ u8_ hl8_
 refine ⟨_, rfl, ?_⟩
 refine Ops_step (R_move rfl) rfl rfl ?_
 refine Ops_call (C_func bd47 rfl) rfl rfl ?_
 refine (sealskinref02_Reader_Number_ok (x0 := y8_0) hI.st (hg.up hI.le) ⟨_, ⟨A8_0_1, c8_0_1, rfl, ⟨hc8_0_1, hs8_0_1⟩⟩, ht8_0⟩ h).mono ?_
 rintro _ w9_ ⟨r9_0, y9_0, L9_, H9_, rfl, hI9_, hq9_0, h⟩
 refine Exists.elim (hI.call hI9_ (new1 hge_b4_)) fun L90_ h9_ => ?_
 have hz9_ := hI.size
 replace hI := h9_.1
 have u9_ := h9_.2.1
 have hl9_ := h9_.2.2
 clear h9_
 replace hs0 := hs0.up u9_.hh
 replace ht2_ := ht2_.up u9_ (ht2_.apart ht8_0 (by decide))
 replace hs8_0_1 := hs8_0_1.up u9_.hh
 clear ht8_0
 obtain ⟨l9_0_, hl9_0_, ht9_0⟩ := hq9_0
 obtain ⟨A9_0_1, c9_0_1, rfl, ⟨hc9_0_1, hs9_0_1⟩⟩ := hl9_0_
 clear hI9_ u9_ hl9_
 refine ⟨_, rfl, ?_⟩
 refine Ops_step (R_move rfl) rfl rfl ?_
 refine Ops_call (C_func bd47 rfl) rfl rfl ?_
 refine (sealskinref02_Reader_Number_ok (x0 := y9_0) hI.st (hg.up hI.le) ⟨_, ⟨A9_0_1, c9_0_1, rfl, ⟨hc9_0_1, hs9_0_1⟩⟩, ht9_0⟩ h).mono ?_
 rintro _ w10_ ⟨r10_0, y10_0, L10_, H10_, rfl, hI10_, hq10_0, h⟩
 refine Exists.elim (hI.call hI10_ (new1 hge_b4_)) fun L100_ h10_ => ?_
 have hz10_ := hI.size
 replace hI := h10_.1
 have u10_ := h10_.2.1
 have hl10_ := h10_.2.2
 clear h10_
 replace hs0 := hs0.up u10_.hh
 replace ht2_ := ht2_.up u10_ (ht2_.apart ht9_0 (by decide))
 replace hs9_0_1 := hs9_0_1.up u10_.hh
 clear ht9_0
 obtain ⟨l10_0_, hl10_0_, ht10_0⟩ := hq10_0
 obtain ⟨A10_0_1, c10_0_1, rfl, ⟨hc10_0_1, hs10_0_1⟩⟩ := hl10_0_
 clear hI10_ u10_ hl10_
 refine ⟨_, rfl, ?_⟩
 refine Ops_step (R_move rfl) rfl rfl ?_
 refine Ops_call (C_func bd47 rfl) rfl rfl ?_
 refine (sealskinref02_Reader_Number_ok (x0 := y10_0) hI.st (hg.up hI.le) ⟨_, ⟨A10_0_1, c10_0_1, rfl, ⟨hc10_0_1, hs10_0_1⟩⟩, ht10_0⟩ h).mono ?_
 rintro _ w11_ ⟨r11_0, y11_0, L11_, H11_, rfl, hI11_, hq11_0, h⟩
 refine Exists.elim (hI.call hI11_ (new1 hge_b4_)) fun L110_ h11_ => ?_
 have hz11_ := hI.size
 replace hI := h11_.1
 have u11_ := h11_.2.1
 have hl11_ := h11_.2.2
 clear h11_
 replace hs0 := hs0.up u11_.hh
 replace ht2_ := ht2_.up u11_ (ht2_.apart ht10_0 (by decide))
 replace hs10_0_1 := hs10_0_1.up u11_.hh
 clear ht10_0
 obtain ⟨l11_0_, hl11_0_, ht11_0⟩ := hq11_0
 obtain ⟨A11_0_1, c11_0_1, rfl, ⟨hc11_0_1, hs11_0_1⟩⟩ := hl11_0_
 clear hI11_ u11_ hl11_
 refine ⟨_, rfl, ?_⟩
 refine Ops_step (R_move rfl) rfl rfl ?_
 refine Ops_call (C_func bd47 rfl) rfl rfl ?_
 refine (sealskinref02_Reader_Number_ok (x0 := y11_0) hI.st (hg.up hI.le) ⟨_, ⟨A11_0_1, c11_0_1, rfl, ⟨hc11_0_1, hs11_0_1⟩⟩, ht11_0⟩ h).mono ?_
 rintro _ w12_ ⟨r12_0, y12_0, L12_, H12_, rfl, hI12_, hq12_0, h⟩
 refine Exists.elim (hI.call hI12_ (new1 hge_b4_)) fun L120_ h12_ => ?_
 have hz12_ := hI.size
 replace hI := h12_.1
 have u12_ := h12_.2.1
 have hl12_ := h12_.2.2
 clear h12_
 replace hs0 := hs0.up u12_.hh
 replace ht2_ := ht2_.up u12_ (ht2_.apart ht11_0 (by decide))
 replace hs11_0_1 := hs11_0_1.up u12_.hh
 clear ht11_0
 obtain ⟨l12_0_, hl12_0_, ht12_0⟩ := hq12_0
 obtain ⟨A12_0_1, c12_0_1, rfl, ⟨hc12_0_1, hs12_0_1⟩⟩ := hl12_0_
 clear hI12_ u12_ hl12_
 refine ⟨_, rfl, ?_⟩
 refine Ops_step (R_build (pl := [(0, 1), (1, 1), (2, 1), (3, 1), (4, 1), (5, 1), (6, 1)]) (cs := [vi r6_0, vi r7_0, vi r8_0, vi r9_0, vi r10_0, vi r11_0, vi r12_0, vi 0, .slice none 0 0]) zr25 pl25 rfl rfl rfl) rfl rfl ?_
 have hlo13_b2_ := ht2_.blk.lt
 have hI0_ := hI
 refine Ops_to (R_alloc zr25) rfl rfl ?_
 rintro _ w13_ ⟨b13_, rfl, hb13_, hB13_, hF13_⟩
 replace hI := hI.fr0 hF13_
 replace ht2_ := ht2_.fr0 hF13_
 replace ht12_0 := ht12_0.fr0 hF13_
 have ht13_ : Tok H12_ _ b13_ 25 ([vi 0, vi 0, vi 0, vi 0, vi 0, vi 0, vi 0, vi 0, .slice none 0 0]) := ⟨hB13_.to rfl, Out.ge hI0_.st (Nat.le_of_eq hb13_.symm)⟩
 have hge_b13_ : w.heap.size ≤ b13_ := hb13_ ▸ hI0_.size
 have hne13_b2_ : b2_ ≠ b13_ := fun e_ => absurd hlo13_b2_ (by omega)
 clear hB13_ hb13_ hI0_ hF13_
 refine Ops_to0 (R_storeN sz25 rfl rfl rfl ht13_.blk (Nat.le_of_ble_eq_true rfl) rfl) rfl ?_
 rintro _ w14_ ⟨hB14_, hF14_⟩
 replace hI := hI.tok hF14_ (out1 ht13_.out) (new1 hge_b13_)
 replace ht2_ := ht2_.fr hF14_ (ne1 hne13_b2_)
 replace ht12_0 := ht12_0.fr hF14_ (ht12_0.apart ht13_ (by decide))
 replace ht13_ : Tok H12_ _ b13_ 25 ([vi r6_0, vi r7_0, vi r8_0, vi r9_0, vi r10_0, vi r11_0, vi r12_0, vi 0, .slice none 0 0]) := ⟨hB14_, ht13_.out⟩
 clear hF14_ hB14_
 refine Ops_nil ?_
 refine then_n (k5 _ _ ?_)
 clear k5 K5
 refine W_keepB [0, 2, 4, 5] fun B_ b_ => ?_
 simp only [e_, Nat.reduceAdd, Nat.reduceBEq] at b_
 subst b_
 refine W_seq_k fun K16 k16 => ?_
 refine W_region [28, 29, 30, none] rfl (Ops_step (R_move rfl) rfl rfl ?_)
 refine Ops_call (C_func bd47 rfl) rfl rfl ?_
 refine (sealskinref02_Reader_Number_ok (x0 := y12_0) hI.st (hg.up hI.le) ⟨_, ⟨A12_0_1, c12_0_1, rfl, ⟨hc12_0_1, hs12_0_1⟩⟩, ht12_0⟩ h).mono ?_
 rintro _ w17_ ⟨r17_0, y17_0, L17_, H17_, rfl, hI17_, hq17_0, h⟩
 refine Exists.elim (hI.call hI17_ (new1 hge_b4_)) fun L170_ h17_ => ?_
 have hz17_ := hI.size
 replace hI := h17_.1
 have u17_ := h17_.2.1
 have hl17_ := h17_.2.2
 clear h17_
 replace hs0 := hs0.up u17_.hh
 replace ht2_ := ht2_.up u17_ (ht2_.apart ht12_0 (by decide))
 replace hs12_0_1 := hs12_0_1.up u17_.hh
 replace ht13_ := ht13_.up u17_ (ht13_.apart ht12_0 (by decide))
 clear ht12_0
 obtain ⟨l17_0_, hl17_0_, ht17_0⟩ := hq17_0
 obtain ⟨A17_0_1, c17_0_1, rfl, ⟨hc17_0_1, hs17_0_1⟩⟩ := hl17_0_
 clear hI17_ u17_ hl17_
 refine ⟨_, rfl, ?_⟩
 refine Ops_step (R_fieldAddr fo25_7 rfl) rfl rfl ?_
 refine Ops_to0 (R_store sz22 rfl rfl ht13_.blk (by show 7 < 9; decide) rfl) rfl ?_
 rintro _ w18_ ⟨hB18_, hF18_⟩
 replace hI := hI.tok hF18_ (out1 ht13_.out) (new1 hge_b13_)
 replace ht2_ := ht2_.fr hF18_ (ne1 hne13_b2_)
 replace ht17_0 := ht17_0.fr hF18_ (ht17_0.apart ht13_ (by decide))
 replace ht13_ : Tok H17_ _ b13_ 25 ([vi r6_0, vi r7_0, vi r8_0, vi r9_0, vi r10_0, vi r11_0, vi r12_0, vi r17_0, .slice none 0 0]) := ⟨hB18_, ht13_.out⟩
 clear hF18_ hB18_
 refine Ops_nil ?_
 refine then_n (k16 _ _ ?_)
 clear k16 K16
 refine W_seq_k fun K19 k19 => ?_
 refine W_region [31, 32, 6] rfl (Ops_step (R_move rfl) rfl rfl ?_)
 refine Ops_call (C_func bd47 rfl) rfl rfl ?_
 refine (sealskinref02_Reader_Number_ok (x0 := y17_0) hI.st (hg.up hI.le) ⟨_, ⟨A17_0_1, c17_0_1, rfl, ⟨hc17_0_1, hs17_0_1⟩⟩, ht17_0⟩ h).mono ?_
 rintro _ w20_ ⟨r20_0, y20_0, L20_, H20_, rfl, hI20_, hq20_0, h⟩
 refine Exists.elim (hI.call hI20_ (new1 hge_b4_)) fun L200_ h20_ => ?_
 have hz20_ := hI.size
 replace hI := h20_.1
 have u20_ := h20_.2.1
 have hl20_ := h20_.2.2
 clear h20_
 replace hs0 := hs0.up u20_.hh
 replace ht2_ := ht2_.up u20_ (ht2_.apart ht17_0 (by decide))
 replace ht13_ := ht13_.up u20_ (ht13_.apart ht17_0 (by decide))
 replace hs17_0_1 := hs17_0_1.up u20_.hh
 clear ht17_0
 obtain ⟨l20_0_, hl20_0_, ht20_0⟩ := hq20_0
 obtain ⟨A20_0_1, c20_0_1, rfl, ⟨hc20_0_1, hs20_0_1⟩⟩ := hl20_0_
 clear hI20_ u20_ hl20_
 refine ⟨_, rfl, ?_⟩
 refine Ops_step (R_assign rfl) rfl rfl ?_
 refine Ops_nil ?_
 refine then_n (k19 _ _ ?_)
 clear k19 K19
 refine ex_ h fun J21_ hr21_ h => ?_
 refine W_seq_join [0, 2, 4, 5] [] (fun vals_ w2 => ∃ (yb4__21 : sealskinref02_Reader) (yb13__21 : api_Msg) (Ab13__21_8 : Option Addr) (cb13__21_8 : Nat) (L H : Gh), vals_ = [] ∧ J21_ yb4__21 yb13__21 ∧ Inv [] G w L H w2 ∧ Le L200_ L ∧ Le H20_ H ∧ Ob 69 H H w2 b4_ yb4__21 ∧ Tok H w2 b13_ 25 [vi yb13__21.Kind_, vi yb13__21.Who_, vi yb13__21.Seq_, vi yb13__21.Rev_, vi yb13__21.At_, vi yb13__21.N_, vi yb13__21.Target_, vi yb13__21.Err_, .slice Ab13__21_8 yb13__21.Edit_.length cb13__21_8] ∧ OwnS w.heap.size 54 H H w2 Ab13__21_8 cb13__21_8 yb13__21.Edit_ ∧ Tok H w2 b2_ 25 ([vi 0, vi 0, vi 0, vi 0, vi 0, vi 0, vi 0, vi 0, .slice none 0 0]) ∧ True) (fun B_ b_ => ?_) (fun B_ b_ => ?_)
 ·
  simp only [e_, Nat.reduceAdd, Nat.reduceBEq] at b_
  subst b_
  clear hr21_
  have hll21_ := Le.refl L200_
  have hhh21_ := Le.refl H20_
  refine W_seq_k fun K22 k22 => ?_
  refine W_region [33, 34, 35] rfl (Ops_step (R_move rfl) rfl rfl (Ops_step (R_min rfl rfl _root_.rfl) rfl rfl (Ops_step (R_move rfl) rfl rfl ?_)))
  refine Ops_nil ?_
  refine then_n (k22 _ _ ?_)
  clear k22 K22
  refine W_keepB [0, 2, 4, 5, 34, 35] fun B_ b_ => ?_
  simp only [e_, Nat.reduceAdd, Nat.reduceBEq] at b_
  subst b_
  refine W_block ?_
  refine Exists.elim h fun I24_ h => Exists.elim h fun n24_ h => ?_
  have h0_ := h.1
  have hs24_ := h.2
  clear h
  refine W_loopB [0, 2, 4, 5, 34] [35] (fun m vals_ w2 => ∃ (x35_24 : Int) (yb13__24 : api_Msg) (Ab13__24_8 : Option Addr) (cb13__24_8 : Nat) (yb4__24 : sealskinref02_Reader) (L H : Gh), vals_ = [vi x35_24] ∧ I24_ m x35_24 yb13__24 yb4__24 ∧ Inv [] G w L H w2 ∧ Le L200_ L ∧ Le H20_ H ∧ Tok H w2 b13_ 25 [vi yb13__24.Kind_, vi yb13__24.Who_, vi yb13__24.Seq_, vi yb13__24.Rev_, vi yb13__24.At_, vi yb13__24.N_, vi yb13__24.Target_, vi yb13__24.Err_, .slice Ab13__24_8 yb13__24.Edit_.length cb13__24_8] ∧ OwnS w.heap.size 54 H H w2 Ab13__24_8 cb13__24_8 yb13__24.Edit_ ∧ Ob 69 H H w2 b4_ yb4__24 ∧ Tok H w2 b2_ 25 ([vi 0, vi 0, vi 0, vi 0, vi 0, vi 0, vi 0, vi 0, .slice none 0 0]) ∧ True) n24_ _ rfl ⟨0, (api_Msg.mk r6_0 r7_0 r8_0 r9_0 r10_0 r11_0 r12_0 r17_0 []), none, 0, y20_0, _, _, rfl, h0_, hI, Le.refl _, Le.refl _, ht13_, OwnS.nil, ⟨_, ⟨A20_0_1, c20_0_1, rfl, ⟨hc20_0_1, hs20_0_1⟩⟩, ht20_0⟩, ht2_, trivial⟩ fun B_ b_ => ?_
  clear h0_
  simp only [e_, Nat.reduceAdd, Nat.reduceBEq] at b_
  subst b_
  clear ht2_
  rintro m24_ _ w24_ ⟨x35_24, yb13__24, Ab13__24_8, cb13__24_8, yb4__24, L24_, H24_, rfl, hJ24_, hI24_, hll24_, hhh24_, htb13__24, hob13__24_8, hqb4__24, ht2_, -⟩
  replace hI := hI24_
  clear hI24_
  have h := hs24_ m24_ x35_24 yb13__24 yb4__24 hJ24_
  clear hs24_ hJ24_
  replace hs0 := hs0.up hhh24_
  replace hs20_0_1 := hs20_0_1.up hhh24_
  replace hll21_ := hll21_.trans hll24_
  replace hhh21_ := hhh21_.trans hhh24_
  obtain ⟨lb4__24_, hlb4__24_, htb4__24⟩ := hqb4__24
  obtain ⟨Ab4__24_1, cb4__24_1, rfl, ⟨hcb4__24_1, hsb4__24_1⟩⟩ := hlb4__24_
  refine W_seq_k fun K25 k25 => ?_
  refine W_region [36] rfl (Ops_step (R_lss rfl rfl) rfl rfl ?_)
  refine Ops_nil ?_
  refine then_n (k25 _ _ ?_)
  clear k25 K25
  refine W_seq_k fun K26 k26 => ?_
  refine W_if rfl (fun hc27_ => ?_) (fun hc27_ => ?_)
  ·
   replace h := h.1 hc27_
   refine W_skip ?_
   refine then_n (k26 _ _ ?_)
   clear k26 K26
   refine W_seq_k fun K28 k28 => ?_
   refine W_block ?_
   refine W_seq_k fun K29 k29 => ?_
   refine W_region [37, 38, 39, 40, 41, 7, none] rfl (Ops_step (R_move rfl) rfl rfl ?_)
   refine Ops_call (C_func bd47 rfl) rfl rfl ?_
   refine (sealskinref02_Reader_Number_ok (x0 := yb4__24) hI.st (hg.up hI.le) ⟨_, ⟨Ab4__24_1, cb4__24_1, rfl, ⟨hcb4__24_1, hsb4__24_1⟩⟩, htb4__24⟩ h).mono ?_
   rintro _ w30_ ⟨r30_0, y30_0, L30_, H30_, rfl, hI30_, hq30_0, h⟩
   refine Exists.elim (hI.call hI30_ (new1 hge_b4_)) fun L300_ h30_ => ?_
   have hz30_ := hI.size
   replace hI := h30_.1
   have u30_ := h30_.2.1
   have hl30_ := h30_.2.2
   clear h30_
   replace hs0 := hs0.up u30_.hh
   replace hll21_ := hll21_.trans u30_.ll
   replace hhh21_ := hhh21_.trans u30_.hh
   replace ht2_ := ht2_.up u30_ (ht2_.apart htb4__24 (by decide))
   replace htb13__24 := htb13__24.up u30_ (htb13__24.apart htb4__24 (by decide))
   replace hob13__24_8 := hob13__24_8.up u30_.hh u30_ (hob13__24_8.ne htb4__24.blk (by decide))
   replace hsb4__24_1 := hsb4__24_1.up u30_.hh
   replace hll24_ := hll24_.trans u30_.ll
   replace hhh24_ := hhh24_.trans u30_.hh
   clear htb4__24
   obtain ⟨l30_0_, hl30_0_, ht30_0⟩ := hq30_0
   obtain ⟨A30_0_1, c30_0_1, rfl, ⟨hc30_0_1, hs30_0_1⟩⟩ := hl30_0_
   clear hI30_ u30_ hl30_
   refine ⟨_, rfl, ?_⟩
   refine Ops_step (R_move rfl) rfl rfl ?_
   refine Ops_call (C_func bd47 rfl) rfl rfl ?_
   refine (sealskinref02_Reader_Number_ok (x0 := y30_0) hI.st (hg.up hI.le) ⟨_, ⟨A30_0_1, c30_0_1, rfl, ⟨hc30_0_1, hs30_0_1⟩⟩, ht30_0⟩ h).mono ?_
   rintro _ w31_ ⟨r31_0, y31_0, L31_, H31_, rfl, hI31_, hq31_0, h⟩
   refine Exists.elim (hI.call hI31_ (new1 hge_b4_)) fun L310_ h31_ => ?_
   have hz31_ := hI.size
   replace hI := h31_.1
   have u31_ := h31_.2.1
   have hl31_ := h31_.2.2
   clear h31_
   replace hs0 := hs0.up u31_.hh
   replace hll21_ := hll21_.trans u31_.ll
   replace hhh21_ := hhh21_.trans u31_.hh
   replace ht2_ := ht2_.up u31_ (ht2_.apart ht30_0 (by decide))
   replace htb13__24 := htb13__24.up u31_ (htb13__24.apart ht30_0 (by decide))
   replace hob13__24_8 := hob13__24_8.up u31_.hh u31_ (hob13__24_8.ne ht30_0.blk (by decide))
   replace hll24_ := hll24_.trans u31_.ll
   replace hhh24_ := hhh24_.trans u31_.hh
   replace hs30_0_1 := hs30_0_1.up u31_.hh
   clear ht30_0
   obtain ⟨l31_0_, hl31_0_, ht31_0⟩ := hq31_0
   obtain ⟨A31_0_1, c31_0_1, rfl, ⟨hc31_0_1, hs31_0_1⟩⟩ := hl31_0_
   clear hI31_ u31_ hl31_
   refine ⟨_, rfl, ?_⟩
   refine Ops_step (R_build (pl := [(0, 1), (1, 1)]) (cs := [vi r30_0, vi r31_0, vs (Str.mk [])]) zr54 pl54 rfl rfl rfl) rfl rfl ?_
   have hlp32_hob13__24_8 := hob13__24_8.lt
   have hI0_ := hI
   refine Ops_to (R_alloc zr54) rfl rfl ?_
   rintro _ w32_ ⟨b32_, rfl, hb32_, hB32_, hF32_⟩
   replace hI := hI.fr0 hF32_
   replace ht2_ := ht2_.fr0 hF32_
   replace htb13__24 := htb13__24.fr0 hF32_
   replace hob13__24_8 := hob13__24_8.fr0 hF32_
   replace ht31_0 := ht31_0.fr0 hF32_
   have ht32_ : Tok H31_ _ b32_ 54 ([vi 0, vi 0, vs (Str.mk [])]) := ⟨hB32_.to rfl, Out.ge hI0_.st (Nat.le_of_eq hb32_.symm)⟩
   have hge_b32_ : w.heap.size ≤ b32_ := hb32_ ▸ hI0_.size
   have hsq32_hob13__24_8 : ∀ i_ ∈ bk Ab13__24_8 cb13__24_8, i_ ∉ [b32_] := fun i_ hi_ hm_ => by have h_ := hlp32_hob13__24_8 i_ hi_; rw [List.mem_singleton] at hm_; omega
   clear hB32_ hb32_ hI0_ hF32_
   refine Ops_to0 (R_storeN sz54 rfl rfl rfl ht32_.blk (Nat.le_of_ble_eq_true rfl) rfl) rfl ?_
   rintro _ w33_ ⟨hB33_, hF33_⟩
   replace hI := hI.tok hF33_ (out1 ht32_.out) (new1 hge_b32_)
   replace ht2_ := ht2_.fr hF33_ (ht2_.apart ht32_ (by decide))
   replace htb13__24 := htb13__24.fr hF33_ (htb13__24.apart ht32_ (by decide))
   replace hob13__24_8 := hob13__24_8.fr hF33_ hsq32_hob13__24_8
   replace ht31_0 := ht31_0.fr hF33_ (ht31_0.apart ht32_ (by decide))
   replace ht32_ : Tok H31_ _ b32_ 54 ([vi r30_0, vi r31_0, vs (Str.mk [])]) := ⟨hB33_, ht32_.out⟩
   clear hF33_ hB33_
   refine Ops_nil ?_
   refine then_n (k29 _ _ ?_)
   clear k29 K29
   refine W_keepB [0, 2, 4, 5, 7, 34, 35] fun B_ b_ => ?_
   simp only [e_, Nat.reduceAdd, Nat.reduceBEq] at b_
   subst b_
   refine W_seq_k fun K35 k35 => ?_
   refine W_region [42, 43, 44, none] rfl (Ops_step (R_move rfl) rfl rfl ?_)
   refine Ops_call (C_func bd66 rfl) rfl rfl ?_
   refine (sealskinref02_Reader_Text_ok (x0 := y31_0) (x1 := 256) hI.st (hg.up hI.le) ⟨_, ⟨A31_0_1, c31_0_1, rfl, ⟨hc31_0_1, hs31_0_1⟩⟩, ht31_0⟩ h).mono ?_
   rintro _ w36_ ⟨r36_0, y36_0, L36_, H36_, rfl, hI36_, hq36_0, h⟩
   refine Exists.elim (hI.call hI36_ (new1 hge_b4_)) fun L360_ h36_ => ?_
   have hz36_ := hI.size
   replace hI := h36_.1
   have u36_ := h36_.2.1
   have hl36_ := h36_.2.2
   clear h36_
   replace hs0 := hs0.up u36_.hh
   replace hll21_ := hll21_.trans u36_.ll
   replace hhh21_ := hhh21_.trans u36_.hh
   replace ht2_ := ht2_.up u36_ (ht2_.apart ht31_0 (by decide))
   replace htb13__24 := htb13__24.up u36_ (htb13__24.apart ht31_0 (by decide))
   replace hob13__24_8 := hob13__24_8.up u36_.hh u36_ (hob13__24_8.ne ht31_0.blk (by decide))
   replace hll24_ := hll24_.trans u36_.ll
   replace hhh24_ := hhh24_.trans u36_.hh
   replace hs31_0_1 := hs31_0_1.up u36_.hh
   replace ht32_ := ht32_.up u36_ (ht32_.apart ht31_0 (by decide))
   clear ht31_0
   obtain ⟨l36_0_, hl36_0_, ht36_0⟩ := hq36_0
   obtain ⟨A36_0_1, c36_0_1, rfl, ⟨hc36_0_1, hs36_0_1⟩⟩ := hl36_0_
   clear hI36_ u36_ hl36_
   refine ⟨_, rfl, ?_⟩
   refine Ops_step (R_fieldAddr fo54_2 rfl) rfl rfl ?_
   refine Ops_to0 (R_store sz9 rfl rfl ht32_.blk (by show 2 < 3; decide) rfl) rfl ?_
   rintro _ w37_ ⟨hB37_, hF37_⟩
   replace hI := hI.tok hF37_ (out1 ht32_.out) (new1 hge_b32_)
   replace ht2_ := ht2_.fr hF37_ (ht2_.apart ht32_ (by decide))
   replace htb13__24 := htb13__24.fr hF37_ (htb13__24.apart ht32_ (by decide))
   replace hob13__24_8 := hob13__24_8.fr hF37_ hsq32_hob13__24_8
   replace ht36_0 := ht36_0.fr hF37_ (ht36_0.apart ht32_ (by decide))
   replace ht32_ : Tok H36_ _ b32_ 54 ([vi r30_0, vi r31_0, vs r36_0]) := ⟨hB37_, ht32_.out⟩
   clear hF37_ hB37_
   refine Ops_nil ?_
   refine then_n (k35 _ _ ?_)
   clear k35 K35
   refine W_region [45, 46, 47, 48, 49, 50, none] rfl (Ops_step (R_fieldAddr fo25_8 rfl) rfl rfl ?_)
   refine Ops_step (R_loadB (v := .slice Ab13__24_8 yb13__24.Edit_.length cb13__24_8) ag23 rfl htb13__24.blk rfl) rfl rfl ?_
   refine Ops_step (R_loadN ag54 sz54 rfl ht32_.blk (Nat.le_of_ble_eq_true rfl)) rfl rfl ?_
   have hlo38_hob13__24_8 := hob13__24_8.lt
   refine Ops_to (R_buildSlice el23 zr54 (by decide) (by decide) rfl rfl) rfl rfl ?_
   rintro _ w38_ ⟨b38_, rfl, hb38_, hB38_, hF38_⟩
   have ho38_ : OwnS w.heap.size 54 L360_ H36_ _ (some ⟨b38_, 0, none⟩) 1 ([(api_Part.mk r30_0 r31_0 r36_0)] : List api_Part) := OwnS.ofBlk (css := [[vi r30_0, vi r31_0, vs r36_0]]) hI.st hb38_ hB38_ (.cons rfl .nil) rfl (by have := hI.size; omega) (by show 1 ≤ maxLen; decide)
   replace hI := hI.fr0 hF38_
   replace ht2_ := ht2_.fr0 hF38_
   replace htb13__24 := htb13__24.fr0 hF38_
   replace hob13__24_8 := hob13__24_8.fr0 hF38_
   replace ht36_0 := ht36_0.fr0 hF38_
   clear hF38_ hB38_
   have hsp38_hob13__24_8 : ∀ i ∈ bk (some ⟨b38_, 0, none⟩) 1, i ∉ bk Ab13__24_8 cb13__24_8 := sep_new (fun i_ hi_ => by have := (bk_of hi_).1; simp only [blkOf, List.mem_singleton] at this; omega) hlo38_hob13__24_8
   have hk40_ := h.1
   replace h := h.2
   refine Ops_to (X_append (α := api_Part) (xs := yb13__24.Edit_) (ys := ([(api_Part.mk r30_0 r31_0 r36_0)] : List api_Part)) el23 rfl rfl hob13__24_8 ((Srcs.ofOwn Tryd.underlying23 ho38_ (by decide)).up hI.sub) hI.st hk40_ (by decide) hI.size) rfl rfl ?_
   rintro _ w39_ ⟨A39_, c39_, rfl, ho39_, hF39_, hbk39_⟩
   clear hbk39_
   replace hI := hI.tok hF39_ hob13__24_8.out (hob13__24_8.new (Nat.le_refl _))
   replace ht2_ := ht2_.fr hF39_ (ht2_.sep hob13__24_8 (by decide))
   replace htb13__24 := htb13__24.fr hF39_ (htb13__24.sep hob13__24_8 (by decide))
   replace ht36_0 := ht36_0.fr hF39_ (ht36_0.sep hob13__24_8 (by decide))
   clear hF39_ hob13__24_8
   refine Ops_step (R_fieldAddr fo25_8 rfl) rfl rfl ?_
   refine Ops_to0 (R_store sz23 rfl rfl htb13__24.blk (by show 8 < 9; decide) rfl) rfl ?_
   rintro _ w41_ ⟨hB41_, hF41_⟩
   replace hI := hI.tok hF41_ (out1 htb13__24.out) (new1 hge_b13_)
   replace ht2_ := ht2_.fr hF41_ (ne1 hne13_b2_)
   replace ht36_0 := ht36_0.fr hF41_ (ht36_0.apart htb13__24 (by decide))
   replace ho39_ := ho39_.fr hF41_ (ho39_.ne htb13__24.blk (by decide))
   replace htb13__24 : Tok H36_ _ b13_ 25 ([vi yb13__24.Kind_, vi yb13__24.Who_, vi yb13__24.Seq_, vi yb13__24.Rev_, vi yb13__24.At_, vi yb13__24.N_, vi yb13__24.Target_, vi yb13__24.Err_, .slice A39_ ((yb13__24.Edit_ ++ ([(api_Part.mk r30_0 r31_0 r36_0)] : List api_Part)).length) c39_]) := ⟨hB41_, htb13__24.out⟩
   clear hF41_ hB41_
   refine Ops_nil ?_
   refine block_n ?_
   refine then_n (k28 _ _ ?_)
   clear k28 K28
   refine W_keepB [0, 2, 4, 5, 34, 35] fun B_ b_ => ?_
   simp only [e_, Nat.reduceAdd, Nat.reduceBEq] at b_
   subst b_
   refine W_region [51, 35] rfl ?_
   have hk43_ := h.1
   replace h := h.2
   refine Ops_step (R_add rfl rfl (wI hk43_.1 hk43_.2)) rfl rfl (Ops_step (R_move rfl) rfl rfl ?_)
   refine Ops_nil ?_
   refine then_n ?_
   exact h.elim fun m_ h => ⟨m_, _, h.1, rfl, ⟨(x35_24 + 1), (api_Msg.mk yb13__24.Kind_ yb13__24.Who_ yb13__24.Seq_ yb13__24.Rev_ yb13__24.At_ yb13__24.N_ yb13__24.Target_ yb13__24.Err_ (yb13__24.Edit_ ++ ([(api_Part.mk r30_0 r31_0 r36_0)] : List api_Part))), A39_, c39_, y36_0, _, _, rfl, h.2, hI, hll24_, hhh24_, htb13__24, ho39_, ⟨_, ⟨A36_0_1, c36_0_1, rfl, ⟨hc36_0_1, hs36_0_1⟩⟩, ht36_0⟩, ht2_, trivial⟩, ⟨rfl, rfl, rfl, rfl, rfl, trivial⟩⟩
  ·
   replace h := h.2 hc27_
   refine W_exit ?_
   refine then_exit ?_
   clear k26 K26
   refine then_exit ?_
   refine block_exit ?_
   refine then_n ?_
   exact ⟨_, rfl, ⟨yb4__24, (api_Msg.mk yb13__24.Kind_ yb13__24.Who_ yb13__24.Seq_ yb13__24.Rev_ yb13__24.At_ yb13__24.N_ yb13__24.Target_ yb13__24.Err_ yb13__24.Edit_), Ab13__24_8, cb13__24_8, _, _, rfl, h, hI, hll21_, hhh21_, ⟨_, ⟨Ab4__24_1, cb4__24_1, rfl, ⟨hcb4__24_1, hsb4__24_1⟩⟩, htb4__24⟩, htb13__24, hob13__24_8, ht2_, trivial⟩, ⟨rfl, rfl, rfl, rfl, trivial⟩⟩
 ·
  simp only [e_, Nat.reduceAdd, Nat.reduceBEq] at b_
  subst b_
  clear h
  clear ht2_
  rintro _ w21_ ⟨yb4__21, yb13__21, Ab13__21_8, cb13__21_8, L21_, H21_, rfl, hJ21_, hI21_, hll21_, hhh21_, hqb4__21, htb13__21, hob13__21_8, ht2_, -⟩
  replace hI := hI21_
  clear hI21_
  have h := hr21_ yb4__21 yb13__21 hJ21_
  clear hr21_ hJ21_
  replace hs0 := hs0.up hhh21_
  replace hs20_0_1 := hs20_0_1.up hhh21_
  obtain ⟨lb4__21_, hlb4__21_, htb4__21⟩ := hqb4__21
  obtain ⟨Ab4__21_1, cb4__21_1, rfl, ⟨hcb4__21_1, hsb4__21_1⟩⟩ := hlb4__21_
  refine W_seq_k fun K44 k44 => ?_
  refine W_region [53, 54, 52, 55, 56, 8, 9] rfl ?_
  refine Exists.elim (hob13__21_8.freeze hI) fun L45_ h45_ => Exists.elim h45_ fun H45_ h45_ => ?_
  replace hI := h45_.1
  have u45_ := h45_.2.1
  have hs45_ := h45_.2.2.2 (Le.refl _)
  have hc45_ := hob13__21_8.cap
  replace hs0 := hs0.up u45_.hh
  replace ht2_ := ht2_.up u45_ (ht2_.sep hob13__21_8 (by decide))
  replace hsb4__21_1 := hsb4__21_1.up u45_.hh
  replace htb4__21 := htb4__21.up u45_ (htb4__21.sep hob13__21_8 (by decide))
  replace htb13__21 := htb13__21.up u45_ (htb13__21.sep hob13__21_8 (by decide))
  clear h45_ u45_ hob13__21_8
  refine Ops_step (R_loadN ag25 sz25 rfl htb13__21.blk (Nat.le_of_ble_eq_true rfl)) rfl rfl ?_
  refine Ops_call (C_func bd25 rfl) rfl rfl ?_
  refine (sealskinref13_Put_ok (x0 := (api_Msg.mk yb13__21.Kind_ yb13__21.Who_ yb13__21.Seq_ yb13__21.Rev_ yb13__21.At_ yb13__21.N_ yb13__21.Target_ yb13__21.Err_ yb13__21.Edit_)) hI.st (hg.up hI.le) ⟨Ab13__21_8, cb13__21_8, rfl, ⟨hc45_, hs45_⟩⟩ h).mono ?_
  rintro _ w46_ ⟨A46_0, c46_0, r46_0, r46_1, L46_, H46_, rfl, hI46_, ho46_0, h⟩
  refine Exists.elim (hI.call hI46_ (by simp)) fun L460_ h46_ => ?_
  have hz46_ := hI.size
  replace hI := h46_.1
  have u46_ := h46_.2.1
  have hl46_ := h46_.2.2
  clear h46_
  replace hs0 := hs0.up u46_.hh
  replace ht2_ := ht2_.up u46_ (by simp)
  replace hsb4__21_1 := hsb4__21_1.up u46_.hh
  replace htb4__21 := htb4__21.up u46_ (by simp)
  replace htb13__21 := htb13__21.up u46_ (by simp)
  replace hs45_ := hs45_.up u46_.hh
  replace ho46_0 := OwnS.backS ho46_0 hz46_ (Le.refl _)
  clear hI46_ u46_ hl46_
  refine ⟨_, rfl, ?_⟩
  refine Exists.elim (ho46_0.freeze hI) fun L47_ h47_ => Exists.elim h47_ fun H47_ h47_ => ?_
  replace hI := h47_.1
  have u47_ := h47_.2.1
  have hs47_ := h47_.2.2.1 (Le.no _)
  have hc47_ := ho46_0.cap
  replace hs0 := hs0.up u47_.hh
  replace ht2_ := ht2_.up u47_ (ht2_.sep ho46_0 (by decide))
  replace hsb4__21_1 := hsb4__21_1.up u47_.hh
  replace htb4__21 := htb4__21.up u47_ (htb4__21.sep ho46_0 (by decide))
  replace htb13__21 := htb13__21.up u47_ (htb13__21.sep ho46_0 (by decide))
  replace hs45_ := hs45_.up u47_.hh
  clear h47_ u47_ ho46_0
  refine Ops_step (R_move rfl) rfl rfl ?_
  refine Ops_step (R_extract (v := .slice A46_0 r46_0.length c46_0) rfl rfl) rfl rfl ?_
  refine Ops_step (R_extract (v := vi r46_1) rfl rfl) rfl rfl ?_
  refine Ops_step (R_assign rfl) rfl rfl (Ops_step (R_assign rfl) rfl rfl ?_)
  refine Ops_nil ?_
  refine then_n (k44 _ _ ?_)
  clear k44 K44
  refine W_seq_k fun K48 k48 => ?_
  refine ex_ h fun J49_ hr49_ h => ?_
  refine W_seq_join [2, 5] [72] (fun vals_ w2 => ∃ (x72_49 : Bool) (L H : Gh), vals_ = [.bool x72_49] ∧ J49_ x72_49 ∧ Inv [] G w L H w2 ∧ Le L47_ L ∧ Le H47_ H ∧ Tok H w2 b2_ 25 ([vi 0, vi 0, vi 0, vi 0, vi 0, vi 0, vi 0, vi 0, .slice none 0 0]) ∧ Tok H w2 b13_ 25 ([vi yb13__21.Kind_, vi yb13__21.Who_, vi yb13__21.Seq_, vi yb13__21.Rev_, vi yb13__21.At_, vi yb13__21.N_, vi yb13__21.Target_, vi yb13__21.Err_, .slice Ab13__21_8 yb13__21.Edit_.length cb13__21_8]) ∧ True) (fun B_ b_ => ?_) (fun B_ b_ => ?_)
  ·
   simp only [e_, Nat.reduceAdd, Nat.reduceBEq] at b_
   subst b_
   clear hr49_
   have hll49_ := Le.refl L47_
   have hhh49_ := Le.refl H47_
   refine W_region [57, 58, 59, 60, 61, 62, 63, 64, 65, 66, 67, 68, 69, 70, 71, 72] rfl (Ops_step (R_move rfl) rfl rfl (Ops_step (R_nilCheck rfl) rfl rfl (Ops_step (R_fieldAddr fo69_2 rfl) rfl rfl ?_)))
   refine Ops_step (R_loadB (v := vi yb4__21.E_) ag22 rfl htb4__21.blk rfl) rfl rfl ?_
   refine Ops_step (R_neq rfl rfl) rfl rfl (Ops_step (R_move rfl) rfl rfl ?_)
   refine Ops_split 62 rfl (fun hg50_ => ?_) (fun hg50_ => ?_)
   ·
    replace h := h.1 hg50_
    refine Ops_pass rfl rfl (Ops_pass rfl rfl (Ops_step (R_pick_true rfl rfl) rfl rfl (Ops_step (R_move rfl) rfl rfl (Ops_pass rfl rfl ?_))))
    refine Ops_pass rfl rfl (Ops_pass rfl rfl (Ops_pass rfl rfl (Ops_pass rfl rfl (Ops_step (R_pick_true rfl rfl) rfl rfl ?_))))
    refine Ops_nil ?_
    refine then_n ?_
    exact ⟨_, rfl, ⟨true, _, _, rfl, h, hI, hll49_, hhh49_, ht2_, htb13__21, trivial⟩, ⟨rfl, rfl, trivial⟩⟩
   ·
    replace h := h.2 hg50_
    refine Ops_step (R_move rfl) rfl rfl (Ops_step (R_neq rfl rfl) rfl rfl (Ops_step (R_pick_false rfl rfl) rfl rfl (Ops_step (R_move rfl) rfl rfl ?_)))
    refine Ops_split 66 rfl (fun hg51_ => ?_) (fun hg51_ => ?_)
    ·
     replace h := h.1 hg51_
     refine Ops_pass rfl rfl (Ops_pass rfl rfl (Ops_pass rfl rfl (Ops_pass rfl rfl (Ops_pass rfl rfl ?_))))
     refine Ops_step (R_pick_true rfl rfl) rfl rfl ?_
     refine Ops_nil ?_
     refine then_n ?_
     exact ⟨_, rfl, ⟨true, _, _, rfl, h, hI, hll49_, hhh49_, ht2_, htb13__21, trivial⟩, ⟨rfl, rfl, trivial⟩⟩
    ·
     replace h := h.2 hg51_
     refine Ops_step (R_move rfl) rfl rfl ?_
     refine Ops_step (X_bytesStr (bs := r46_0) Tryd.underlying30 Tryd.underlying5 Tryd.underlying9 rfl rfl ((hs47_.up hI.sub).fz.rd hI.st)) rfl rfl ?_
     refine Ops_step (R_move rfl) rfl rfl ?_
     refine Ops_step (X_bytesStr (bs := x0) Tryd.underlying30 Tryd.underlying5 Tryd.underlying9 rfl rfl (hs0.fz.rd hI.st)) rfl rfl ?_
     refine Ops_step (R_strNeB rfl rfl) rfl rfl (Ops_step (R_pick_false rfl rfl) rfl rfl ?_)
     refine Ops_nil ?_
     refine then_n ?_
     exact ⟨_, rfl, ⟨(decide ((Str.mk r46_0).b ≠ (Str.mk x0).b)), _, _, rfl, h, hI, hll49_, hhh49_, ht2_, htb13__21, trivial⟩, ⟨rfl, rfl, trivial⟩⟩
  ·
   simp only [e_, Nat.reduceAdd, Nat.reduceBEq] at b_
   subst b_
   clear h
   clear ht2_
   clear htb13__21
   rintro _ w49_ ⟨x72_49, L49_, H49_, rfl, hJ49_, hI49_, hll49_, hhh49_, ht2_, htb13__21, -⟩
   replace hI := hI49_
   clear hI49_
   have h := hr49_ x72_49 hJ49_
   clear hr49_ hJ49_
   replace hs45_ := hs45_.up hhh49_
   refine W_cond rfl (fun hc52_ => ?_) (fun hc52_ => ?_)
   ·
    replace h := h.1 hc52_
    refine W_seq_k fun K53 k53 => ?_
    refine W_region [73, none, 3] rfl ?_
    refine Ops_step (R_build (pl := []) (cs := [vi 0, vi 0, vi 0, vi 0, vi 0, vi 0, vi 0, vi 0, .slice none 0 0]) zr25 pl25 rfl rfl rfl) rfl rfl ?_
    refine Ops_to0 (R_storeN sz25 rfl rfl rfl ht2_.blk (Nat.le_of_ble_eq_true rfl) rfl) rfl ?_
    rintro _ w54_ ⟨hB54_, hF54_⟩
    replace hI := hI.tok hF54_ (out1 ht2_.out) (new1 hge_b2_)
    replace ht2_ : Tok H49_ _ b2_ 25 ([vi 0, vi 0, vi 0, vi 0, vi 0, vi 0, vi 0, vi 0, .slice none 0 0]) := ⟨hB54_, ht2_.out⟩
    clear hF54_ hB54_
    refine Ops_step (R_assign rfl) rfl rfl ?_
    refine Ops_nil ?_
    refine then_n (k53 _ _ ?_)
    clear k53 K53
    refine W_ret ?_
    refine then_ret ?_
    clear k48 K48
    refine ⟨_, ⟨_, _, _, rfl, rfl, run_loadVarN ag25 sz25 ht2_.blk (Nat.le_of_ble_eq_true rfl), ⟨_, _, rfl, rfl, rfl⟩⟩, ?_⟩
    exact ⟨_, (api_Msg.mk 0 0 0 0 0 0 0 0 []), 120, _, _, rfl, hI, ⟨none, 0, rfl, ⟨(Nat.le_refl 0), Sl.nil⟩⟩, h⟩
   ·
    replace h := h.2 hc52_
    refine W_skip ?_
    refine then_n (k48 _ _ ?_)
    clear k48 K48
    refine W_seq_k fun K55 k55 => ?_
    refine W_region [74, none, 3] rfl (Ops_step (R_loadN ag25 sz25 rfl htb13__21.blk (Nat.le_of_ble_eq_true rfl)) rfl rfl ?_)
    refine Ops_to0 (R_storeN sz25 rfl rfl rfl ht2_.blk (Nat.le_of_ble_eq_true rfl) rfl) rfl ?_
    rintro _ w56_ ⟨hB56_, hF56_⟩
    replace hI := hI.tok hF56_ (out1 ht2_.out) (new1 hge_b2_)
    replace ht2_ : Tok H49_ _ b2_ 25 ([vi yb13__21.Kind_, vi yb13__21.Who_, vi yb13__21.Seq_, vi yb13__21.Rev_, vi yb13__21.At_, vi yb13__21.N_, vi yb13__21.Target_, vi yb13__21.Err_, .slice Ab13__21_8 yb13__21.Edit_.length cb13__21_8]) := ⟨hB56_, ht2_.out⟩
    clear hF56_ hB56_
    refine Ops_step (R_assign rfl) rfl rfl ?_
    refine Ops_nil ?_
    refine then_n (k55 _ _ ?_)
    clear k55 K55
    refine W_ret ?_
    refine ⟨_, ⟨_, _, _, rfl, rfl, run_loadVarN ag25 sz25 ht2_.blk (Nat.le_of_ble_eq_true rfl), ⟨_, _, rfl, rfl, rfl⟩⟩, ?_⟩
    exact ⟨_, (api_Msg.mk yb13__21.Kind_ yb13__21.Who_ yb13__21.Seq_ yb13__21.Rev_ yb13__21.At_ yb13__21.N_ yb13__21.Target_ yb13__21.Err_ yb13__21.Edit_), 0, _, _, rfl, hI, ⟨Ab13__21_8, cb13__21_8, rfl, ⟨hc45_, hs45_⟩⟩, h⟩

end Go.Proofs.YtbjmngacjdcddaaDoor

