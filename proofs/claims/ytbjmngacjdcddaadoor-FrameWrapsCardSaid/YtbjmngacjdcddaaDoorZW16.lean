/- What is shown of the program on the way to the law. -/
import Derived.Test.YtbjmngacjdcddaaDoorZW2
import Derived.Test.YtbjmngacjdcddaaDoorZW12
import Derived.Test.YtbjmngacjdcddaaDoorZW14
import Derived.Test.YtbjmngacjdcddaaDoorProg
set_option linter.unusedVariables false
set_option linter.unusedSimpArgs false
set_option maxHeartbeats 4000000
namespace Go.Proofs.YtbjmngacjdcddaaDoor
open Go Go.Sx Go.Lx
namespace TFtF
theorem hm : Tryd.prog.follows .mixedOrders = true := by kernel_rfl
theorem ag22 : aggB Tryd.prog 22 = some false := by kernel_rfl
theorem ag23 : aggB Tryd.prog 23 = some false := by kernel_rfl
theorem ag25 : aggB Tryd.prog 25 = some true := by kernel_rfl
theorem ag3 : aggB Tryd.prog 3 = some false := by kernel_rfl
theorem ag54 : aggB Tryd.prog 54 = some true := by kernel_rfl
theorem ag9 : aggB Tryd.prog 9 = some false := by kernel_rfl
theorem bd14 : bodied Tryd.prog 14 = true := by kernel_rfl
theorem bd44 : bodied Tryd.prog 44 = true := by kernel_rfl
theorem bd45 : bodied Tryd.prog 45 = true := by kernel_rfl
theorem bd52 : bodied Tryd.prog 52 = true := by kernel_rfl
theorem bd53 : bodied Tryd.prog 53 = true := by kernel_rfl
theorem bd54 : bodied Tryd.prog 54 = true := by kernel_rfl
theorem bd62 : bodied Tryd.prog 62 = true := by kernel_rfl
theorem el56 : Elem Tryd.prog 56 3 1 8 := Elem.of (by kernel_rfl)
theorem fo25_0 : offB Tryd.prog 25 0 = some 0 := by kernel_rfl
theorem fo25_1 : offB Tryd.prog 25 1 = some 1 := by kernel_rfl
theorem fo25_2 : offB Tryd.prog 25 2 = some 2 := by kernel_rfl
theorem fo25_3 : offB Tryd.prog 25 3 = some 3 := by kernel_rfl
theorem fo25_4 : offB Tryd.prog 25 4 = some 4 := by kernel_rfl
theorem fo25_5 : offB Tryd.prog 25 5 = some 5 := by kernel_rfl
theorem fo25_6 : offB Tryd.prog 25 6 = some 6 := by kernel_rfl
theorem fo25_7 : offB Tryd.prog 25 7 = some 7 := by kernel_rfl
theorem fo25_8 : offB Tryd.prog 25 8 = some 8 := by kernel_rfl
theorem fo54_0 : offB Tryd.prog 54 0 = some 0 := by kernel_rfl
theorem fo54_1 : offB Tryd.prog 54 1 = some 1 := by kernel_rfl
theorem fo54_2 : offB Tryd.prog 54 2 = some 2 := by kernel_rfl
theorem pl25 : partPl Tryd.prog 25 = some [(0, 1), (1, 1), (2, 1), (3, 1), (4, 1), (5, 1), (6, 1), (7, 1), (8, 1)] := by kernel_rfl
theorem sz22 : sz Tryd.prog 22 = some 1 := by kernel_rfl
theorem sz23 : sz Tryd.prog 23 = some 1 := by kernel_rfl
theorem sz25 : sz Tryd.prog 25 = some 9 := by kernel_rfl
theorem sz54 : sz Tryd.prog 54 = some 3 := by kernel_rfl
theorem zr25 : zr Tryd.prog 25 = some ([.int .i64 0] ++ [.int .i64 0] ++ [.int .i64 0] ++ [.int .i64 0] ++ [.int .i64 0] ++ [.int .i64 0] ++ [.int .i64 0] ++ [.int .i64 0] ++ [.slice none 0 0]) := by kernel_rfl
theorem zr3 : zr Tryd.prog 3 = some ([.int .i64 0]) := by kernel_rfl
theorem zr54 : zr Tryd.prog 54 = some ([.int .i64 0] ++ [.int .i64 0] ++ [.string ByteArray.empty]) := by kernel_rfl
end TFtF
open TFtF
theorem frame_Put_ok {G : Gh} {w : World} (hS : St G w) (hg : GL G) {l0 : List Value} {x0 : api_Msg} (hr0 : Rp.cs G x0 l0) {Q : (List UInt8) → Int → Prop} (h : frame_Put x0 Q) : Calls Tryd.prog 23 #[.agg l0.toArray] w fun e w2 => ∃ (A0 : Option Addr) (c0 : Nat) (r0 : List UInt8) (r1 : Int) (L H : Gh), e = .returned (.tuple #[.slice A0 r0.length c0, vi r1]) ∧ Inv [] G w L H w2 ∧ OwnS w.heap.size 5 L H w2 A0 c0 r0 ∧ Q r0 r1 := by
 unfold frame_Put at h
 have hI := Inv.start (M := []) hS
 refine calls_W 53 Tryd.func23 rfl Tryd.ntmps23 rfl [.tmp 2, .tmp 3] rfl ?_
 obtain ⟨A0_1, c0_1, rfl, ⟨hc0_1, hs0_1⟩⟩ := hr0
 refine W_seq_k fun K1 k1 => ?_
 refine W_region [1, 2, 3] rfl ?_
 have hI0_ := hI
 refine Ops_to (R_box rfl) rfl rfl ?_
 rintro _ w2_ ⟨b2_, rfl, hb2_, hB2_, hF2_⟩
 replace hI := hI.fr0 hF2_
 have ht2_ : Tok G _ b2_ 25 ([vi x0.Kind_, vi x0.Who_, vi x0.Seq_, vi x0.Rev_, vi x0.At_, vi x0.N_, vi x0.Target_, vi x0.Err_, .slice A0_1 x0.Edit_.length c0_1]) := ⟨hB2_.to rfl, Out.ge hI0_.st (Nat.le_of_eq hb2_.symm)⟩
 have hge_b2_ : w.heap.size ≤ b2_ := hb2_ ▸ hI0_.size
 clear hB2_ hb2_ hI0_ hF2_
 refine Ops_step (R_assign rfl) rfl rfl (Ops_step (R_assign rfl) rfl rfl ?_)
 refine Ops_nil ?_
 refine then_n (k1 _ _ ?_)
 clear k1 K1
 refine W_seq_k fun K3 k3 => ?_
 refine W_seq_k fun K4 k4 => ?_
 refine W_region [8, 9, 4] rfl (Ops_step (R_loadN ag25 sz25 rfl ht2_.blk (Nat.le_of_ble_eq_true rfl)) rfl rfl ?_)
 refine Ops_call (C_func bd14 rfl) rfl rfl ?_
 refine (frame_Check_ok (x0 := x0) hI.st (hg.up hI.le) ⟨A0_1, c0_1, rfl, ⟨hc0_1, hs0_1⟩⟩ h).mono ?_
 rintro _ w5_ ⟨r5_0, L5_, H5_, rfl, hI5_, h⟩
 refine Exists.elim (hI.call hI5_ (by simp)) fun L50_ h5_ => ?_
 have hz5_ := hI.size
 replace hI := h5_.1
 have u5_ := h5_.2.1
 have hl5_ := h5_.2.2
 clear h5_
 replace hs0_1 := hs0_1.up u5_.hh
 replace ht2_ := ht2_.up u5_ (by simp)
 clear hI5_ u5_ hl5_
 refine ⟨_, rfl, ?_⟩
 refine Ops_step (R_assign rfl) rfl rfl ?_
 refine Ops_nil ?_
 refine then_n (k4 _ _ ?_)
 clear k4 K4
 refine W_seq_k fun K6 k6 => ?_
 refine W_region [10, 11] rfl (Ops_step (R_move rfl) rfl rfl (Ops_step (R_neq rfl rfl) rfl rfl ?_))
 refine Ops_nil ?_
 refine then_n (k6 _ _ ?_)
 clear k6 K6
 refine W_keepB [1, 4, 11] fun B_ b_ => ?_
 simp only [e_, Nat.reduceAdd, Nat.reduceBEq] at b_
 subst b_
 refine W_if rfl (fun hc8_ => ?_) (fun hc8_ => ?_)
 ·
  replace h := h.1 hc8_
  refine W_seq_k fun K9 k9 => ?_
  refine W_region [12, 2, 3] rfl (Ops_step (R_move rfl) rfl rfl (Ops_step (R_assign rfl) rfl rfl (Ops_step (R_assign rfl) rfl rfl ?_)))
  refine Ops_nil ?_
  refine then_n (k9 _ _ ?_)
  clear k9 K9
  refine W_ret ?_
  refine then_ret ?_
  clear k3 K3
  refine ⟨_, ⟨_, _, rfl, rfl, ⟨_, _, rfl, rfl, rfl⟩⟩, ?_⟩
  exact ⟨none, 0, [], r5_0, _, _, rfl, hI, OwnS.nil, h⟩
 ·
  replace h := h.2 hc8_
  refine W_skip ?_
  refine then_n (k3 _ _ ?_)
  clear k3 K3
  refine W_seq_k fun K10 k10 => ?_
  refine W_region [13, 14, 15, 16, 17, 18, 19, 20, 21, 22, 23, 24, 25, 26, 27, 28, 29, 30, 31, 32, 33, 5] rfl (Ops_step (R_fieldAddr fo25_0 rfl) rfl rfl ?_)
  refine Ops_step (R_loadB (v := vi x0.Kind_) ag3 rfl ht2_.blk rfl) rfl rfl ?_
  refine Ops_step (R_fieldAddr fo25_1 rfl) rfl rfl ?_
  refine Ops_step (R_loadB (v := vi x0.Who_) ag3 rfl ht2_.blk rfl) rfl rfl ?_
  refine Ops_step (R_fieldAddr fo25_2 rfl) rfl rfl ?_
  refine Ops_step (R_loadB (v := vi x0.Seq_) ag3 rfl ht2_.blk rfl) rfl rfl ?_
  refine Ops_step (R_fieldAddr fo25_3 rfl) rfl rfl ?_
  refine Ops_step (R_loadB (v := vi x0.Rev_) ag3 rfl ht2_.blk rfl) rfl rfl ?_
  refine Ops_step (R_fieldAddr fo25_4 rfl) rfl rfl ?_
  refine Ops_step (R_loadB (v := vi x0.At_) ag3 rfl ht2_.blk rfl) rfl rfl ?_
  refine Ops_step (R_fieldAddr fo25_5 rfl) rfl rfl ?_
  refine Ops_step (R_loadB (v := vi x0.N_) ag3 rfl ht2_.blk rfl) rfl rfl ?_
  refine Ops_step (R_fieldAddr fo25_6 rfl) rfl rfl ?_
  refine Ops_step (R_loadB (v := vi x0.Target_) ag3 rfl ht2_.blk rfl) rfl rfl ?_
  refine Ops_step (R_fieldAddr fo25_7 rfl) rfl rfl ?_
  refine Ops_step (R_loadB (v := vi x0.Err_) ag22 rfl ht2_.blk rfl) rfl rfl ?_
  refine Ops_step (R_fieldAddr fo25_8 rfl) rfl rfl ?_
  refine Ops_step (R_loadB (v := .slice A0_1 x0.Edit_.length c0_1) ag23 rfl ht2_.blk rfl) rfl rfl ?_
  refine Ops_step (R_len Tryd.underlying23 rfl rfl) rfl rfl ?_
  refine Ops_to (R_buildSlice el56 zr3 (by decide) (by decide) rfl rfl) rfl rfl ?_
  rintro _ w11_ ⟨b11_, rfl, hb11_, hB11_, hF11_⟩
  have ho11_ : OwnS w.heap.size 3 Gh.no H5_ _ (some ⟨b11_, 0, none⟩) 9 ([x0.Kind_, x0.Who_, x0.Seq_, x0.Rev_, x0.At_, x0.N_, x0.Target_, x0.Err_, (x0.Edit_.length : Int)] : List Int) := OwnS.ofBlk hI.st hb11_ hB11_ (all2_sc' _) rfl (by have := hI.size; omega) (by show 9 ≤ maxLen; decide)
  replace hI := hI.fr0 hF11_
  replace ht2_ := ht2_.fr0 hF11_
  clear hF11_ hB11_
  refine Exists.elim (ho11_.lend hI.st (Le.no _)) fun Hb12_0_ hb12_0_ => ?_
  refine Ops_call (C_func bd52 rfl) rfl rfl ?_
  refine (octet_Put_ok (x0 := []) (x1 := ([x0.Kind_, x0.Who_, x0.Seq_, x0.Rev_, x0.At_, x0.N_, x0.Target_, x0.Err_, (x0.Edit_.length : Int)] : List Int)) hb12_0_.1 (hg.up (hI.le.trans hb12_0_.2.1)) (Nat.le_refl 0) Sl.nil (Nat.le_refl _) hb12_0_.2.2 h).mono ?_
  rintro _ w12_ ⟨A12_0, c12_0, r12_0, L12_, H12_, rfl, hI12_, ho12_0, h⟩
  refine Exists.elim (hI.callB hb12_0_.2.1 hI12_ (by simp)) fun L120_ h12_ => Exists.elim h12_ fun H120_ h12_ => ?_
  have hz12_ := hI.size
  replace hI := h12_.1
  have u12_ := h12_.2.1
  have hl12_ := h12_.2.2.1
  have hh12_ := h12_.2.2.2
  clear h12_
  replace hs0_1 := hs0_1.up u12_.hh
  replace ht2_ := ht2_.up u12_ (by simp)
  replace ho12_0 := OwnS.backS ho12_0 hz12_ hh12_
  clear hI12_ u12_ hl12_
  refine ⟨_, rfl, ?_⟩
  refine Ops_step (R_assign rfl) rfl rfl ?_
  refine Ops_nil ?_
  refine then_n (k10 _ _ ?_)
  clear k10 K10
  refine W_keepB [1, 5] fun B_ b_ => ?_
  simp only [e_, Nat.reduceAdd, Nat.reduceBEq] at b_
  subst b_
  refine ex_ h fun J14_ hr14_ h => ?_
  refine W_seq_join [] [5] (fun vals_ w2 => ∃ (x5_14 : List UInt8) (A5_14 : Option Addr) (c5_14 : Nat) (L H : Gh), vals_ = [.slice A5_14 x5_14.length c5_14] ∧ J14_ x5_14 ∧ Inv [] G w L H w2 ∧ Le L120_ L ∧ Le H120_ H ∧ OwnS w.heap.size 5 Gh.no H w2 A5_14 c5_14 x5_14 ∧ True) (fun B_ b_ => ?_) (fun B_ b_ => ?_)
  ·
   simp only [e_, Nat.reduceAdd, Nat.reduceBEq] at b_
   subst b_
   clear hr14_
   have hll14_ := Le.refl L120_
   have hhh14_ := Le.refl H120_
   refine W_seq_k fun K15 k15 => ?_
   refine W_region [34, 35, 36, 37] rfl (Ops_step (R_fieldAddr fo25_8 rfl) rfl rfl ?_)
   refine Ops_step (R_loadB (v := .slice A0_1 x0.Edit_.length c0_1) ag23 rfl ht2_.blk rfl) rfl rfl ?_
   refine Ops_step (R_len Tryd.underlying23 rfl rfl) rfl rfl (Ops_step (R_move rfl) rfl rfl ?_)
   refine Ops_nil ?_
   refine then_n (k15 _ _ ?_)
   clear k15 K15
   refine W_block ?_
   refine Exists.elim h fun I16_ h => Exists.elim h fun n16_ h => ?_
   have h0_ := h.1
   have hs16_ := h.2
   clear h
   refine W_loopB [35, 36] [5, 37] (fun m vals_ w2 => ∃ (x5_16 : List UInt8) (A5_16 : Option Addr) (c5_16 : Nat) (x37_16 : Int) (L H : Gh), vals_ = [.slice A5_16 x5_16.length c5_16, vi x37_16] ∧ I16_ m x5_16 x37_16 ∧ Inv [] G w L H w2 ∧ Le L120_ L ∧ Le H120_ H ∧ OwnS w.heap.size 5 Gh.no H w2 A5_16 c5_16 x5_16 ∧ True) n16_ _ rfl ⟨r12_0, A12_0, c12_0, 0, _, _, rfl, h0_, hI, Le.refl _, Le.refl _, ho12_0, trivial⟩ fun B_ b_ => ?_
   clear h0_
   simp only [e_, Nat.reduceAdd, Nat.reduceBEq] at b_
   subst b_
   rintro m16_ _ w16_ ⟨x5_16, A5_16, c5_16, x37_16, L16_, H16_, rfl, hJ16_, hI16_, hll16_, hhh16_, ho5_16, -⟩
   replace hI := hI16_
   clear hI16_
   have h := hs16_ m16_ x5_16 x37_16 hJ16_
   clear hs16_ hJ16_
   replace hs0_1 := hs0_1.up hhh16_
   replace hll14_ := hll14_.trans hll16_
   replace hhh14_ := hhh14_.trans hhh16_
   refine W_seq_k fun K17 k17 => ?_
   refine W_region [38] rfl (Ops_step (R_lss rfl rfl) rfl rfl ?_)
   refine Ops_nil ?_
   refine then_n (k17 _ _ ?_)
   clear k17 K17
   refine W_seq_k fun K18 k18 => ?_
   refine W_if rfl (fun hc19_ => ?_) (fun hc19_ => ?_)
   ·
    replace h := h.1 hc19_
    refine W_skip ?_
    refine then_n (k18 _ _ ?_)
    clear k18 K18
    refine W_seq_k fun K20 k20 => ?_
    refine W_block ?_
    refine W_seq_k fun K21 k21 => ?_
    refine W_region [39, 40, 7, none] rfl ?_
    refine ex_ h fun x22_ hx22_ h => ?_
    have ha22_ := (Sl.atN (n := 3) rfl (by decide) hs0_1 hx22_).1
    refine Exists.elim (Sl.atN (n := 3) rfl (by decide) hs0_1 hx22_).2 fun l22_ hA22_ => ?_
    have hr22_ := hA22_.1
    have hg22_ := hA22_.2
    clear hA22_
    refine Ops_step (R_indexSl Tryd.underlying23 sz54 rfl rfl hx22_.1 hx22_.lt ha22_) rfl rfl ?_
    replace hr22_ : l22_ = [vi x22_.Kind_, vi x22_.N_, vs x22_.Text_] := hr22_
    subst hr22_
    refine Ops_step (R_loadCs (cs := [vi x22_.Kind_, vi x22_.N_, vs x22_.Text_]) ag54 sz54 rfl (fun j_ v_ hv_ => hI.st _ _ (hg22_ j_ v_ hv_))) rfl rfl ?_
    have hI0_ := hI
    refine Ops_to (R_alloc zr54) rfl rfl ?_
    rintro _ w23_ ⟨b23_, rfl, hb23_, hB23_, hF23_⟩
    replace hI := hI.fr0 hF23_
    replace ho5_16 := ho5_16.fr0 hF23_
    have ht23_ : Tok H16_ _ b23_ 54 ([vi 0, vi 0, vs (Str.mk [])]) := ⟨hB23_.to rfl, Out.ge hI0_.st (Nat.le_of_eq hb23_.symm)⟩
    have hge_b23_ : w.heap.size ≤ b23_ := hb23_ ▸ hI0_.size
    clear hB23_ hb23_ hI0_ hF23_
    refine Ops_to0 (R_storeN sz54 rfl rfl rfl ht23_.blk (Nat.le_of_ble_eq_true rfl) rfl) rfl ?_
    rintro _ w24_ ⟨hB24_, hF24_⟩
    replace hI := hI.tok hF24_ (out1 ht23_.out) (new1 hge_b23_)
    replace ho5_16 := ho5_16.fr hF24_ (ho5_16.ne ht23_.blk (by decide))
    replace ht23_ : Tok H16_ _ b23_ 54 ([vi x22_.Kind_, vi x22_.N_, vs x22_.Text_]) := ⟨hB24_, ht23_.out⟩
    clear hF24_ hB24_
    refine Ops_nil ?_
    refine then_n (k21 _ _ ?_)
    clear k21 K21
    refine W_drawF [41, 42, 43, 44, 45, 46, 47, 48, 49, 50, 5] [(0, true), (1, true), (2, true), (3, true), (4, true), (7, true), (8, true), (5, false), (6, false), (9, false), (10, true)] TFtF.hm rfl (by kernel_rfl) fun ops25_ w25_ hops25_ hF25_ => ?_
    replace hI := hI.fr0 hF25_
    replace ho5_16 := ho5_16.fr0 hF25_
    replace ht23_ := ht23_.fr0 hF25_
    clear hF25_
    refine HSp (R_move rfl) rfl rfl (HSp (R_fieldAddr fo54_0 rfl) rfl rfl ?_)
    refine HS_loadB (v := vi x22_.Kind_) ag3 rfl ht23_.blk rfl rfl rfl ?_
    refine HSp (R_fieldAddr fo54_1 rfl) rfl rfl ?_
    refine HS_loadB (v := vi x22_.N_) ag3 rfl ht23_.blk rfl rfl rfl ?_
    refine HSp (R_fieldAddr fo54_2 rfl) rfl rfl ?_
    refine HS_loadB (v := vs x22_.Text_) ag9 rfl ht23_.blk rfl rfl rfl ?_
    refine HS_to [8] _ rfl (by rw [hops25_]; kernel_rfl) (R_buildSlice el56 zr3 (by decide) (by decide) rfl rfl) rfl rfl ?_
    rintro _ w26_ ⟨b26_, rfl, hb26_, hB26_, hF26_⟩
    have ho26_ : OwnS w.heap.size 3 Gh.no H16_ _ (some ⟨b26_, 0, none⟩) 2 ([x22_.Kind_, x22_.N_] : List Int) := OwnS.ofBlk hI.st hb26_ hB26_ (all2_sc' _) rfl (by have := hI.size; omega) (by show 2 ≤ maxLen; decide)
    replace hI := hI.fr0 hF26_
    replace ho5_16 := ho5_16.fr0 hF26_
    replace ht23_ := ht23_.fr0 hF26_
    clear hF26_ hB26_
    refine ⟨⟨(ht23_.blk.at_ rfl), trivial⟩, ?_⟩
    refine Exists.elim (ho5_16.lend hI.st (Le.no _)) fun Hb27_0_ hb27_0_ => ?_
    refine Exists.elim (ho26_.lend hb27_0_.1 ((Le.no _).trans hb27_0_.2.1)) fun Hb27_1_ hb27_1_ => ?_
    refine HS_call [8] _ rfl (by rw [hops25_]; kernel_rfl) (C_func bd52 rfl) rfl rfl ?_
    refine (octet_Put_ok (x0 := x5_16) (x1 := ([x22_.Kind_, x22_.N_] : List Int)) hb27_1_.1 (hg.up (hI.le.trans (hb27_0_.2.1.trans hb27_1_.2.1))) ho5_16.cap (hb27_0_.2.2.up hb27_1_.2.1) (Nat.le_refl _) hb27_1_.2.2 h).mono ?_
    have hlo27_0_ho5_16 := ho5_16.lt
    rintro _ w27_ ⟨A27_0, c27_0, r27_0, L27_, H27_, rfl, hI27_, ho27_0, h⟩
    refine Exists.elim (hI.callB (hb27_0_.2.1.trans hb27_1_.2.1) hI27_ (by simp)) fun L270_ h27_ => Exists.elim h27_ fun H270_ h27_ => ?_
    have hz27_ := hI.size
    replace hI := h27_.1
    have u27_ := h27_.2.1
    have hl27_ := h27_.2.2.1
    have hh27_ := h27_.2.2.2
    clear h27_
    replace hs0_1 := hs0_1.up u27_.hh
    replace hll14_ := hll14_.trans u27_.ll
    replace hhh14_ := hhh14_.trans u27_.hh
    replace ho5_16 := ho5_16.up (Le.refl _) u27_ (by simp)
    replace hll16_ := hll16_.trans u27_.ll
    replace hhh16_ := hhh16_.trans u27_.hh
    replace ht23_ := ht23_.up u27_ (by simp)
    have hsp27_0_ho5_16 : ∀ i ∈ bk A27_0 c27_0, i ∉ bk A5_16 c5_16 := sep_new ho27_0.off hlo27_0_ho5_16
    replace ho27_0 := OwnS.backS ho27_0 hz27_ hh27_
    clear hI27_ u27_ hl27_
    refine ⟨_, rfl, ⟨(ht23_.blk.at_ rfl), trivial⟩, ?_⟩
    refine Exists.elim (ho27_0.freeze hI) fun L28_ h28_ => Exists.elim h28_ fun H28_ h28_ => ?_
    replace hI := h28_.1
    have u28_ := h28_.2.1
    have hs28_ := h28_.2.2.1 (Le.no _)
    have hc28_ := ho27_0.cap
    replace hs0_1 := hs0_1.up u28_.hh
    replace hll14_ := hll14_.trans u28_.ll
    replace hhh14_ := hhh14_.trans u28_.hh
    replace ho5_16 := ho5_16.up (Le.refl _) u28_ (sep_sym hsp27_0_ho5_16)
    replace hll16_ := hll16_.trans u28_.ll
    replace hhh16_ := hhh16_.trans u28_.hh
    replace ht23_ := ht23_.up u28_ (ht23_.sep ho27_0 (by decide))
    clear h28_ u28_ ho27_0
    refine HS_call [] _ rfl (by rw [hops25_]; kernel_rfl) (C_func bd53 rfl) rfl rfl ?_
    refine (octet_PutText_ok (x0 := r27_0) (x1 := x22_.Text_) hI.st (hg.up hI.le) hc28_ (hs28_.up hI.sub) h).mono ?_
    have hlo29_0_ho5_16 := ho5_16.lt
    rintro _ w29_ ⟨A29_0, c29_0, r29_0, L29_, H29_, rfl, hI29_, ho29_0, h⟩
    refine Exists.elim (hI.call hI29_ (by simp)) fun L290_ h29_ => ?_
    have hz29_ := hI.size
    replace hI := h29_.1
    have u29_ := h29_.2.1
    have hl29_ := h29_.2.2
    clear h29_
    replace hs0_1 := hs0_1.up u29_.hh
    replace hll14_ := hll14_.trans u29_.ll
    replace hhh14_ := hhh14_.trans u29_.hh
    replace ho5_16 := ho5_16.up (Le.refl _) u29_ (by simp)
    replace hll16_ := hll16_.trans u29_.ll
    replace hhh16_ := hhh16_.trans u29_.hh
    replace ht23_ := ht23_.up u29_ (by simp)
    have hsp29_0_ho5_16 : ∀ i ∈ bk A29_0 c29_0, i ∉ bk A5_16 c5_16 := sep_new ho29_0.off hlo29_0_ho5_16
    replace ho29_0 := OwnS.backS ho29_0 hz29_ (Le.refl _)
    clear hI29_ u29_ hl29_
    refine ⟨_, rfl, trivial, ?_⟩
    refine HSp (R_assign rfl) rfl rfl ?_
    refine HS_nil ?_
    clear hops25_
    refine block_n ?_
    refine then_n (k20 _ _ ?_)
    clear k20 K20
    refine W_keepB [5, 35, 36, 37] fun B_ b_ => ?_
    simp only [e_, Nat.reduceAdd, Nat.reduceBEq] at b_
    subst b_
    refine W_region [51, 37] rfl ?_
    have hk31_ := h.1
    replace h := h.2
    refine Ops_step (R_add rfl rfl (wI hk31_.1 hk31_.2)) rfl rfl (Ops_step (R_move rfl) rfl rfl ?_)
    refine Ops_nil ?_
    refine then_n ?_
    exact h.elim fun m_ h => ⟨m_, _, h.1, rfl, ⟨r29_0, A29_0, c29_0, (x37_16 + 1), _, _, rfl, h.2, hI, hll16_, hhh16_, ho29_0, trivial⟩, ⟨rfl, rfl, trivial⟩⟩
   ·
    replace h := h.2 hc19_
    refine W_exit ?_
    refine then_exit ?_
    clear k18 K18
    refine then_exit ?_
    refine block_exit ?_
    refine then_n ?_
    exact ⟨_, rfl, ⟨x5_16, A5_16, c5_16, _, _, rfl, h, hI, hll14_, hhh14_, ho5_16, trivial⟩, trivial⟩
  ·
   simp only [e_, Nat.reduceAdd, Nat.reduceBEq] at b_
   subst b_
   clear h
   rintro _ w14_ ⟨x5_14, A5_14, c5_14, L14_, H14_, rfl, hJ14_, hI14_, hll14_, hhh14_, ho5_14, -⟩
   replace hI := hI14_
   clear hI14_
   have h := hr14_ x5_14 hJ14_
   clear hr14_ hJ14_
   refine W_seq_k fun K32 k32 => ?_
   refine W_region [52, 2, 3] rfl (Ops_step (R_move rfl) rfl rfl (Ops_step (R_assign rfl) rfl rfl (Ops_step (R_assign rfl) rfl rfl ?_)))
   refine Ops_nil ?_
   refine then_n (k32 _ _ ?_)
   clear k32 K32
   refine W_ret ?_
   refine ⟨_, ⟨_, _, rfl, rfl, ⟨_, _, rfl, rfl, rfl⟩⟩, ?_⟩
   exact ⟨A5_14, c5_14, x5_14, 0, _, _, rfl, hI, (ho5_14.hl (Le.no _)), h⟩

end Go.Proofs.YtbjmngacjdcddaaDoor

